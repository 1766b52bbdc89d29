-- written by a program of this session's (wip/tools/pp.py), after the kit's print
import Derived.Test.YteffiodbflmfkaaDoorPPx0
import Derived.Test.YteffiodbflmfkaaDoorPPx1
import Derived.Test.YteffiodbflmfkaaDoorPPx2
namespace Go.Proofs.YteffiodbflmfkaaDoor.PP
open Go.RowKit Go.Proofs.YteffiodbflmfkaaDoorW.PrintWords Go.Proofs.YteffiodbflmfkaaDoorW.PrintLast Go.Proofs.YteffiodbflmfkaaDoorW.PrintMore
attribute [local go_sem] jump_ret jumpE_ret max2_int min2_int max_two min_two max_three min_three max_four min_four   -- for this text's walks alone
set_option linter.unusedVariables false
set_option linter.unusedSimpArgs false

attribute [local go_sem high] eqA59
/-! ### sign_May: function 50 -/
mutual
def sign_May.j0 : Nat → List (S59) → Bool → Option (Bool)
 | 0, _, _ => none
 | k + 1, x0, x18 => if x18 = true then (some false) else (sign_May.l0 k x0 1)
def sign_May.l0 : Nat → List (S59) → Int → Option (Bool)
 | 0, _, _ => none
 | k + 1, x0, x3 => if x3 < (x0.length : Int) then (if 0 ≤ x3 then ((sign_SymMay.f k ((rd_T59 x0 x3).f0) ((rd_T59 x0 x3).f1) ((rd_T59 x0 x3).f2) ((rd_T59 x0 x3).f3)).bind fun t126 => (if t126 = true then ((sign_find.f k x0 ((rd_T59 x0 x3).f0)).bind fun t128 => (if t128 = x3 then (sign_May.l0 k x0 (wrap64 (x3 + 1))) else (some false))) else (some false))) else (none)) else (some true)
end
def sign_May.f (k : Nat) (l0 : List (S59)) : Option (Bool) := if (l0.length : Int) < 1 then (sign_May.j0 k l0 true) else (if (l0.length : Int) > 20 then (sign_May.j0 k l0 true) else (if 0 < (l0.length : Int) then (sign_May.j0 k l0 (!((((rd_T59 l0 0).f0).toList) == ([61] : List UInt8)) || (!(((rd_T59 l0 0).f1) == 0) || (!(((rd_T59 l0 0).f2) == 2) || (!(((rd_T59 l0 0).f3) == 1)))))) else (none)))
theorem sign_May.mono_l : ∀ k, (∀ y0 y1, LeO (sign_May.j0 k y0 y1) (sign_May.j0 (k + 1) y0 y1)) ∧ (∀ y0 y1, LeO (sign_May.l0 k y0 y1) (sign_May.l0 (k + 1) y0 y1))
 | 0 => ⟨fun _ _ r h => by simp [sign_May.j0] at h, fun _ _ r h => by simp [sign_May.l0] at h⟩
 | k + 1 => by
  obtain ⟨ih0, ih1⟩ := sign_May.mono_l k
  refine ⟨?_, ?_⟩
  ·intro y0 y1
   unfold sign_May.j0
   repeat' first
   | (with_reducible exact ih0 _ _)
   | (with_reducible exact ih1 _ _)
   | (with_reducible exact sign_SymMay.mono _ _ _ _ _)
   | (with_reducible exact sign_find.mono _ _ _)
   | (with_reducible exact LeO.refl _)
   | (with_reducible exact LeO.none _)
   | (with_reducible refine LeO.ite ?_ ?_)
   | (with_reducible refine LeO.bind ?_ (fun _ => ?_))
   | exact ih0 _ _
   | exact ih1 _ _
   | exact sign_SymMay.mono _ _ _ _ _
   | exact sign_find.mono _ _ _
   | exact LeO.none _
   | refine LeO.ite ?_ ?_
   | refine LeO.bind ?_ (fun _ => ?_)
  ·intro y0 y1
   unfold sign_May.l0
   repeat' first
   | (with_reducible exact ih0 _ _)
   | (with_reducible exact ih1 _ _)
   | (with_reducible exact sign_SymMay.mono _ _ _ _ _)
   | (with_reducible exact sign_find.mono _ _ _)
   | (with_reducible exact LeO.refl _)
   | (with_reducible exact LeO.none _)
   | (with_reducible refine LeO.ite ?_ ?_)
   | (with_reducible refine LeO.bind ?_ (fun _ => ?_))
   | exact ih0 _ _
   | exact ih1 _ _
   | exact sign_SymMay.mono _ _ _ _ _
   | exact sign_find.mono _ _ _
   | exact LeO.none _
   | refine LeO.ite ?_ ?_
   | refine LeO.bind ?_ (fun _ => ?_)
theorem sign_May.mono : ∀ a0 k, LeO (sign_May.f k a0) (sign_May.f (k + 1) a0) := by
 intro a0 k
 obtain ⟨ih0, ih1⟩ := sign_May.mono_l k
 unfold sign_May.f
 repeat' first
   | (with_reducible exact ih0 _ _)
   | (with_reducible exact ih1 _ _)
   | (with_reducible exact sign_SymMay.mono _ _ _ _ _)
   | (with_reducible exact sign_find.mono _ _ _)
   | (with_reducible exact LeO.refl _)
   | (with_reducible exact LeO.none _)
   | (with_reducible refine LeO.ite ?_ ?_)
   | (with_reducible refine LeO.bind ?_ (fun _ => ?_))
   | exact ih0 _ _
   | exact ih1 _ _
   | exact sign_SymMay.mono _ _ _ _ _
   | exact sign_find.mono _ _ _
   | exact LeO.none _
   | refine LeO.ite ?_ ?_
   | refine LeO.bind ?_ (fun _ => ?_)
set_option maxHeartbeats 8000000 in
set_option maxRecDepth 100000 in
theorem sign_May.calls (k : Nat) (A0 : Option Addr) (c0 : Nat) (l0 : List (S59)) (r : Bool) (w : World) (hr0 : Kd.C k59 w A0 l0.length l0) (hc0 : l0.length ≤ c0) (h : sign_May.f k l0 = some r) (hG : Glob w) :
  Calls Tryd.prog 50 #[.slice A0 l0.length c0] w fun e w' => e = .returned (.bool r) ∧ Below w.heap.size w w' := by
 obtain ⟨⟨hgl0, hgl1, hgl2, hgl3, _⟩⟩ := id hG
 have hu59 := Tryd.underlying59
 have HR0 := Aside0.mk hr0
 have HC0 := Aside0.mk hc0
 clear hr0 hc0
 have HB := Aside0.mk (Below.refl w.heap.size w)
 have H : (if (l0.length : Int) < 1 then (sign_May.j0 k l0 true) else (if (l0.length : Int) > 20 then (sign_May.j0 k l0 true) else (if 0 < (l0.length : Int) then (sign_May.j0 k l0 (!((((rd_T59 l0 0).f0).toList) == ([61] : List UInt8)) || (!(((rd_T59 l0 0).f1) == 0) || (!(((rd_T59 l0 0).f2) == 2) || (!(((rd_T59 l0 0).f3) == 1)))))) else (none)))) = some r := h
 clear h
 have HC2 := Aside0.mk H
 clear H
 go_enter Tryd.func50, Tryd.ntmps50
 go_upto_region 1 with (fail)
 repeat (go_quiet (fail); go_upto_region 1 with (fail))
 go_cut [18] (fun v18 wc => ∃ (kq : Nat) (x18_1 : Bool), v18 = .bool x18_1 ∧ Aside0 (sign_May.j0 kq l0 x18_1 = some r) ∧ Aside0 (kq ≤ k) ∧ Aside0 (Below w.heap.size w wc))
 case first =>
  have H := HC2.out
  clear HC2
  by_cases c3 : (l0.length : Int) < 1
  ·rw [if_pos c3] at H
   have c3b0 : decide ((l0.length : Int) < 1) = true := decide_eq_true c3
   have c3b1 : decide (l0.length < 1) = true := decide_eq_true (by omega)
   clear c3
   (first | rw [c3b0] | (simp only [i64_w, i32_w]; rw [c3b0]) | skip)
   have H' := Aside0.mk H
   clear H
   go_wp2
   repeat (go_quiet (fail); try go_wp2)
   go_meet
   case rel => exact ⟨_, (true), sK, H', ⟨by first | omega | exact Nat.le_refl _⟩, ⟨bB⟩⟩
  ·rw [if_neg c3] at H
   have c3b0 : decide ((l0.length : Int) < 1) = false := decide_eq_false c3
   have c3b1 : decide (l0.length < 1) = false := decide_eq_false (by omega)
   clear c3
   (first | rw [c3b0] | (simp only [i64_w, i32_w]; rw [c3b0]) | skip)
   by_cases c4 : (l0.length : Int) > 20
   ·rw [if_pos c4] at H
    have c4b0 : decide (20 < (l0.length : Int)) = true := decide_eq_true c4
    have c4b1 : decide (20 < l0.length) = true := decide_eq_true (by omega)
    clear c4
    have H' := Aside0.mk H
    clear H
    go_wp2
    repeat (go_quiet (fail); try go_wp2)
    go_meet
    case rel => exact ⟨_, (true), sK, H', ⟨by first | omega | exact Nat.le_refl _⟩, ⟨bB⟩⟩
   ·rw [if_neg c4] at H
    have c4b0 : decide (20 < (l0.length : Int)) = false := decide_eq_false c4
    have c4b1 : decide (20 < l0.length) = false := decide_eq_false (by omega)
    clear c4
    by_cases c5 : 0 < (l0.length : Int)
    ·rw [if_pos c5] at H
     have c5b0 : decide (0 < (l0.length : Int)) = true := decide_eq_true c5
     have c5b1 : decide (0 < l0.length) = true := decide_eq_true (by omega)
     clear c5
     have H' := Aside0.mk H
     clear H
     have p124 : 0 ≤ (0 : Int) := (by omega)
     have q124 : 0 < (l0.length : Int) := of_decide_eq_true aK
     obtain ⟨ad124, e124, hx124_0, hx124_1, hx124_2, hx124_3⟩ := at_T59 HR0.out 0 p124 q124
     cases e124
     have qi124 : (0 < l0.length) = True := eq_true (by omega)
     (try rw [show ((0 : Int)).toNat = 0 from rfl] at hx124_0)
     (try rw [show 0 * 4 = 0 from rfl] at hx124_0)
     (try rw [Addr.add_zero'] at hx124_0)
     (try rw [show ((0 : Int)).toNat = 0 from rfl] at hx124_1)
     (try rw [show 0 * 4 = 0 from rfl] at hx124_1)
     (try rw [Addr.add_zero'] at hx124_1)
     (try rw [show ((0 : Int)).toNat = 0 from rfl] at hx124_2)
     (try rw [show 0 * 4 = 0 from rfl] at hx124_2)
     (try rw [Addr.add_zero'] at hx124_2)
     (try rw [show ((0 : Int)).toNat = 0 from rfl] at hx124_3)
     (try rw [show 0 * 4 = 0 from rfl] at hx124_3)
     (try rw [Addr.add_zero'] at hx124_3)
     replace hx124_0 := (HB.out.cell (World.block_lt_of_cell? w _ hx124_0)).trans hx124_0
     replace hx124_1 := (HB.out.cell (World.block_lt_of_cell? w _ hx124_1)).trans hx124_1
     replace hx124_2 := (HB.out.cell (World.block_lt_of_cell? w _ hx124_2)).trans hx124_2
     replace hx124_3 := (HB.out.cell (World.block_lt_of_cell? w _ hx124_3)).trans hx124_3
     replace p124 := eq_true p124
     replace q124 := eq_true q124
     go_wp2
     repeat (go_quiet (fail); try go_wp2)
     go_meet
     case rel => exact ⟨_, ((!((((rd_T59 l0 0).f0).toList) == ([61] : List UInt8)) || (!(((rd_T59 l0 0).f1) == 0) || (!(((rd_T59 l0 0).f2) == 2) || (!(((rd_T59 l0 0).f3) == 1)))))), sK, H', ⟨by first | omega | exact Nat.le_refl _⟩, ⟨bB⟩⟩
    ·rw [if_neg c5] at H
     exact absurd H (by simp)
 case rest =>
  clear HC2
  try clear p1
  try clear q1
  try clear hx1
  try clear qi1
  try clear p2
  try clear c3
  try clear c3b0
  try clear c3b1
  try clear c4
  try clear c4b0
  try clear c4b1
  try clear c5
  try clear c5b0
  try clear c5b1
  try clear hx124_0
  try clear hx124_1
  try clear hx124_2
  try clear hx124_3
  try clear p124
  try clear q124
  obtain ⟨kq, x18_1, rfl, HA, HJ1, HB⟩ := hcut
  cases kq with
  | zero => exact absurd HA.out (by simp [sign_May.j0])
  | succ kj1 =>
   have H := HA.out
   clear HA
   simp only [sign_May.j0] at H
   by_cases c6 : x18_1 = true
   ·subst c6
    have H1 : (some false) = some r := by rw [if_pos rfl] at H; exact H
    clear H
    have H := H1
    clear H1
    obtain rfl := Option.some.inj H
    go_wp2
    repeat (go_quiet (fail); try go_wp2)
    go_ret
    exact ⟨eK, bB⟩
   ·replace c6 := Bool.eq_false_iff.mpr c6
    subst c6
    have H1 : (sign_May.l0 kj1 l0 1) = some r := by rw [if_neg (show ¬ (false = true) by decide)] at H; exact H
    clear H
    have H := H1
    clear H1
    have H' := Aside0.mk H
    clear H
    go_wp2
    repeat (go_quiet (fail); try go_wp2)
    go_loopg [3] kj1 (fun kq v3 w' => ∃ (x3_2 : Int), v3 = .int .i64 x3_2 ∧ Aside0 (sign_May.l0 kq l0 x3_2 = some r) ∧ Aside0 (kq ≤ kj1) ∧ Aside0 (Below w.heap.size w w'))
    case atStart => exact ⟨(1), sK, H', ⟨Nat.le_refl _⟩, ⟨bB⟩⟩
    case round =>
     clear H'
     try clear p1
     try clear q1
     try clear hx1
     try clear qi1
     try clear p2
     try clear c3
     try clear c3b0
     try clear c3b1
     try clear c4
     try clear c4b0
     try clear c4b1
     try clear c5
     try clear c5b0
     try clear c5b1
     try clear c6
     try clear hx124_0
     try clear hx124_1
     try clear hx124_2
     try clear hx124_3
     try clear p1
     try clear p124
     try clear p2
     try clear q1
     try clear q124
     obtain ⟨x3_2, rfl, HA, HK2, HB⟩ := hrel
     cases gk with
     | zero => exact absurd HA.out (by simp [sign_May.l0])
     | succ k2 =>
      have H := HA.out
      clear HA
      simp only [sign_May.l0] at H
      by_cases c7 : x3_2 < (l0.length : Int)
      ·rw [if_pos c7] at H
       have c7b0 : decide (x3_2 < (l0.length : Int)) = true := decide_eq_true c7
       clear c7
       by_cases c8 : 0 ≤ x3_2
       ·rw [if_pos c8] at H
        have c8b0 : decide (0 ≤ x3_2) = true := decide_eq_true c8
        clear c8
        replace H := Option.bind_eq_some_iff.mp H
        obtain ⟨t126, A90, H⟩ := H
        replace H : (if t126 = true then ((sign_find.f k2 l0 ((rd_T59 l0 x3_2).f0)).bind fun t128 => (if t128 = x3_2 then (sign_May.l0 k2 l0 (wrap64 (x3_2 + 1))) else (some false))) else (some false)) = some r := H
        have A9 := Aside0.mk A90
        clear A90
        by_cases c10 : t126 = true
        ·subst c10
         have H1 : ((sign_find.f k2 l0 ((rd_T59 l0 x3_2).f0)).bind fun t128 => (if t128 = x3_2 then (sign_May.l0 k2 l0 (wrap64 (x3_2 + 1))) else (some false))) = some r := by rw [if_pos rfl] at H; exact H
         clear H
         have H := H1
         clear H1
         replace H := Option.bind_eq_some_iff.mp H
         obtain ⟨t128, A110, H⟩ := H
         replace H : (if t128 = x3_2 then (sign_May.l0 k2 l0 (wrap64 (x3_2 + 1))) else (some false)) = some r := H
         have A11 := Aside0.mk A110
         clear A110
         by_cases c12 : t128 = x3_2
         ·rw [if_pos c12] at H
          have c12b0 : (t128 == x3_2) = true := beq_iff_eq.mpr c12
          have c12b1 : (t128 != x3_2) = false := bne_eq_false_iff_eq.mpr c12
          clear c12
          have H' := Aside0.mk H
          clear H
          have p125 : 0 ≤ (x3_2 : Int) := of_decide_eq_true aK
          have q125 : x3_2 < (l0.length : Int) := of_decide_eq_true aK
          obtain ⟨ad125, e125, hx125_0, hx125_1, hx125_2, hx125_3⟩ := at_T59 HR0.out x3_2 p125 q125
          cases e125
          replace hx125_0 := (HB.out.cell (World.block_lt_of_cell? w _ hx125_0)).trans hx125_0
          replace hx125_1 := (HB.out.cell (World.block_lt_of_cell? w _ hx125_1)).trans hx125_1
          replace hx125_2 := (HB.out.cell (World.block_lt_of_cell? w _ hx125_2)).trans hx125_2
          replace hx125_3 := (HB.out.cell (World.block_lt_of_cell? w _ hx125_3)).trans hx125_3
          replace p125 := eq_true p125
          replace q125 := eq_true q125
          go_wp2_with (first | (go_at_call 63; (with_reducible refine (sign_SymMay.calls k2 ((rd_T59 l0 x3_2).f0) ((rd_T59 l0 x3_2).f1) ((rd_T59 l0 x3_2).f2) ((rd_T59 l0 x3_2).f3) true _ A9.out).mono ?_); rintro e w13 ⟨rfl, hb⟩; have n0_ := Aside0.mk (below_step bB hb); clear HB; have HB := n0_; clear n0_; (try clear hb); (try clear hb2); (try clear hk); (try clear hi); have p127 : 0 ≤ (x3_2 : Int) := of_decide_eq_true aK; have q127 : x3_2 < (l0.length : Int) := of_decide_eq_true aK; obtain ⟨ad127, e127, hx127_0, hx127_1, hx127_2, hx127_3⟩ := at_T59 HR0.out x3_2 p127 q127; obtain rfl : ad125 = ad127 := (by injection e127); replace hx127_0 := (HB.out.cell (World.block_lt_of_cell? w _ hx127_0)).trans hx127_0; replace hx127_1 := (HB.out.cell (World.block_lt_of_cell? w _ hx127_1)).trans hx127_1; replace hx127_2 := (HB.out.cell (World.block_lt_of_cell? w _ hx127_2)).trans hx127_2; replace hx127_3 := (HB.out.cell (World.block_lt_of_cell? w _ hx127_3)).trans hx127_3; replace p127 := eq_true p127; replace q127 := eq_true q127) | (go_at_call 64; (with_reducible refine (sign_find.calls k2 _ _ l0 ((rd_T59 l0 x3_2).f0) t128 _ ?side1 ?side2 A11.out).mono ?_); (case side1 => exact cK (Kd.C_below HR0.out HB.out)); (case side2 => exact HC0.out); rintro e w' ⟨rfl, ⟨nd, rfl⟩⟩; (try first | exact ⟨rfl, _, World.drewN_drewN _ _ _⟩ | exact ⟨rfl, _, Eq.trans (World.drewN_drewN _ _ _) (congrArg (World.drewN _) (Nat.add_assoc _ _ _))⟩)))
          repeat (go_quiet (first | (go_at_call 63; (with_reducible refine (sign_SymMay.calls k2 ((rd_T59 l0 x3_2).f0) ((rd_T59 l0 x3_2).f1) ((rd_T59 l0 x3_2).f2) ((rd_T59 l0 x3_2).f3) true _ A9.out).mono ?_); rintro e w13 ⟨rfl, hb⟩; have n0_ := Aside0.mk (below_step bB hb); clear HB; have HB := n0_; clear n0_; (try clear hb); (try clear hb2); (try clear hk); (try clear hi); have p127 : 0 ≤ (x3_2 : Int) := of_decide_eq_true aK; have q127 : x3_2 < (l0.length : Int) := of_decide_eq_true aK; obtain ⟨ad127, e127, hx127_0, hx127_1, hx127_2, hx127_3⟩ := at_T59 HR0.out x3_2 p127 q127; obtain rfl : ad125 = ad127 := (by injection e127); replace hx127_0 := (HB.out.cell (World.block_lt_of_cell? w _ hx127_0)).trans hx127_0; replace hx127_1 := (HB.out.cell (World.block_lt_of_cell? w _ hx127_1)).trans hx127_1; replace hx127_2 := (HB.out.cell (World.block_lt_of_cell? w _ hx127_2)).trans hx127_2; replace hx127_3 := (HB.out.cell (World.block_lt_of_cell? w _ hx127_3)).trans hx127_3; replace p127 := eq_true p127; replace q127 := eq_true q127) | (go_at_call 64; (with_reducible refine (sign_find.calls k2 _ _ l0 ((rd_T59 l0 x3_2).f0) t128 _ ?side1 ?side2 A11.out).mono ?_); (case side1 => exact cK (Kd.C_below HR0.out HB.out)); (case side2 => exact HC0.out); rintro e w' ⟨rfl, ⟨nd, rfl⟩⟩; (try first | exact ⟨rfl, _, World.drewN_drewN _ _ _⟩ | exact ⟨rfl, _, Eq.trans (World.drewN_drewN _ _ _) (congrArg (World.drewN _) (Nat.add_assoc _ _ _))⟩))); try go_wp2_with (first | (go_at_call 63; (with_reducible refine (sign_SymMay.calls k2 ((rd_T59 l0 x3_2).f0) ((rd_T59 l0 x3_2).f1) ((rd_T59 l0 x3_2).f2) ((rd_T59 l0 x3_2).f3) true _ A9.out).mono ?_); rintro e w13 ⟨rfl, hb⟩; have n0_ := Aside0.mk (below_step bB hb); clear HB; have HB := n0_; clear n0_; (try clear hb); (try clear hb2); (try clear hk); (try clear hi); have p127 : 0 ≤ (x3_2 : Int) := of_decide_eq_true aK; have q127 : x3_2 < (l0.length : Int) := of_decide_eq_true aK; obtain ⟨ad127, e127, hx127_0, hx127_1, hx127_2, hx127_3⟩ := at_T59 HR0.out x3_2 p127 q127; obtain rfl : ad125 = ad127 := (by injection e127); replace hx127_0 := (HB.out.cell (World.block_lt_of_cell? w _ hx127_0)).trans hx127_0; replace hx127_1 := (HB.out.cell (World.block_lt_of_cell? w _ hx127_1)).trans hx127_1; replace hx127_2 := (HB.out.cell (World.block_lt_of_cell? w _ hx127_2)).trans hx127_2; replace hx127_3 := (HB.out.cell (World.block_lt_of_cell? w _ hx127_3)).trans hx127_3; replace p127 := eq_true p127; replace q127 := eq_true q127) | (go_at_call 64; (with_reducible refine (sign_find.calls k2 _ _ l0 ((rd_T59 l0 x3_2).f0) t128 _ ?side1 ?side2 A11.out).mono ?_); (case side1 => exact cK (Kd.C_below HR0.out HB.out)); (case side2 => exact HC0.out); rintro e w' ⟨rfl, ⟨nd, rfl⟩⟩; (try first | exact ⟨rfl, _, World.drewN_drewN _ _ _⟩ | exact ⟨rfl, _, Eq.trans (World.drewN_drewN _ _ _) (congrArg (World.drewN _) (Nat.add_assoc _ _ _))⟩))))
          go_roundg k2
          case measure => have := HJ1.out; have := HK2.out; omega
          case rel => exact ⟨(wrap64 (x3_2 + 1)), sK, H', ⟨by have := HJ1.out; have := HK2.out; omega⟩, ⟨bB⟩⟩
         ·rw [if_neg c12] at H
          have c12b0 : (t128 == x3_2) = false := beq_eq_false_iff_ne.mpr c12
          have c12b1 : (t128 != x3_2) = true := bne_iff_ne.mpr c12
          obtain rfl := Option.some.inj H
          have p125 : 0 ≤ (x3_2 : Int) := of_decide_eq_true aK
          have q125 : x3_2 < (l0.length : Int) := of_decide_eq_true aK
          obtain ⟨ad125, e125, hx125_0, hx125_1, hx125_2, hx125_3⟩ := at_T59 HR0.out x3_2 p125 q125
          cases e125
          replace hx125_0 := (HB.out.cell (World.block_lt_of_cell? w _ hx125_0)).trans hx125_0
          replace hx125_1 := (HB.out.cell (World.block_lt_of_cell? w _ hx125_1)).trans hx125_1
          replace hx125_2 := (HB.out.cell (World.block_lt_of_cell? w _ hx125_2)).trans hx125_2
          replace hx125_3 := (HB.out.cell (World.block_lt_of_cell? w _ hx125_3)).trans hx125_3
          replace p125 := eq_true p125
          replace q125 := eq_true q125
          go_wp2_with (first | (go_at_call 63; (with_reducible refine (sign_SymMay.calls k2 ((rd_T59 l0 x3_2).f0) ((rd_T59 l0 x3_2).f1) ((rd_T59 l0 x3_2).f2) ((rd_T59 l0 x3_2).f3) true _ A9.out).mono ?_); rintro e w14 ⟨rfl, hb⟩; have n0_ := Aside0.mk (below_step bB hb); clear HB; have HB := n0_; clear n0_; (try clear hb); (try clear hb2); (try clear hk); (try clear hi); have p127 : 0 ≤ (x3_2 : Int) := of_decide_eq_true aK; have q127 : x3_2 < (l0.length : Int) := of_decide_eq_true aK; obtain ⟨ad127, e127, hx127_0, hx127_1, hx127_2, hx127_3⟩ := at_T59 HR0.out x3_2 p127 q127; obtain rfl : ad125 = ad127 := (by injection e127); replace hx127_0 := (HB.out.cell (World.block_lt_of_cell? w _ hx127_0)).trans hx127_0; replace hx127_1 := (HB.out.cell (World.block_lt_of_cell? w _ hx127_1)).trans hx127_1; replace hx127_2 := (HB.out.cell (World.block_lt_of_cell? w _ hx127_2)).trans hx127_2; replace hx127_3 := (HB.out.cell (World.block_lt_of_cell? w _ hx127_3)).trans hx127_3; replace p127 := eq_true p127; replace q127 := eq_true q127) | (go_at_call 64; (with_reducible refine (sign_find.calls k2 _ _ l0 ((rd_T59 l0 x3_2).f0) t128 _ ?side1 ?side2 A11.out).mono ?_); (case side1 => exact cK (Kd.C_below HR0.out HB.out)); (case side2 => exact HC0.out); rintro e w' ⟨rfl, ⟨nd, rfl⟩⟩; (try first | exact ⟨rfl, _, World.drewN_drewN _ _ _⟩ | exact ⟨rfl, _, Eq.trans (World.drewN_drewN _ _ _) (congrArg (World.drewN _) (Nat.add_assoc _ _ _))⟩)))
          repeat (go_quiet (first | (go_at_call 63; (with_reducible refine (sign_SymMay.calls k2 ((rd_T59 l0 x3_2).f0) ((rd_T59 l0 x3_2).f1) ((rd_T59 l0 x3_2).f2) ((rd_T59 l0 x3_2).f3) true _ A9.out).mono ?_); rintro e w14 ⟨rfl, hb⟩; have n0_ := Aside0.mk (below_step bB hb); clear HB; have HB := n0_; clear n0_; (try clear hb); (try clear hb2); (try clear hk); (try clear hi); have p127 : 0 ≤ (x3_2 : Int) := of_decide_eq_true aK; have q127 : x3_2 < (l0.length : Int) := of_decide_eq_true aK; obtain ⟨ad127, e127, hx127_0, hx127_1, hx127_2, hx127_3⟩ := at_T59 HR0.out x3_2 p127 q127; obtain rfl : ad125 = ad127 := (by injection e127); replace hx127_0 := (HB.out.cell (World.block_lt_of_cell? w _ hx127_0)).trans hx127_0; replace hx127_1 := (HB.out.cell (World.block_lt_of_cell? w _ hx127_1)).trans hx127_1; replace hx127_2 := (HB.out.cell (World.block_lt_of_cell? w _ hx127_2)).trans hx127_2; replace hx127_3 := (HB.out.cell (World.block_lt_of_cell? w _ hx127_3)).trans hx127_3; replace p127 := eq_true p127; replace q127 := eq_true q127) | (go_at_call 64; (with_reducible refine (sign_find.calls k2 _ _ l0 ((rd_T59 l0 x3_2).f0) t128 _ ?side1 ?side2 A11.out).mono ?_); (case side1 => exact cK (Kd.C_below HR0.out HB.out)); (case side2 => exact HC0.out); rintro e w' ⟨rfl, ⟨nd, rfl⟩⟩; (try first | exact ⟨rfl, _, World.drewN_drewN _ _ _⟩ | exact ⟨rfl, _, Eq.trans (World.drewN_drewN _ _ _) (congrArg (World.drewN _) (Nat.add_assoc _ _ _))⟩))); try go_wp2_with (first | (go_at_call 63; (with_reducible refine (sign_SymMay.calls k2 ((rd_T59 l0 x3_2).f0) ((rd_T59 l0 x3_2).f1) ((rd_T59 l0 x3_2).f2) ((rd_T59 l0 x3_2).f3) true _ A9.out).mono ?_); rintro e w14 ⟨rfl, hb⟩; have n0_ := Aside0.mk (below_step bB hb); clear HB; have HB := n0_; clear n0_; (try clear hb); (try clear hb2); (try clear hk); (try clear hi); have p127 : 0 ≤ (x3_2 : Int) := of_decide_eq_true aK; have q127 : x3_2 < (l0.length : Int) := of_decide_eq_true aK; obtain ⟨ad127, e127, hx127_0, hx127_1, hx127_2, hx127_3⟩ := at_T59 HR0.out x3_2 p127 q127; obtain rfl : ad125 = ad127 := (by injection e127); replace hx127_0 := (HB.out.cell (World.block_lt_of_cell? w _ hx127_0)).trans hx127_0; replace hx127_1 := (HB.out.cell (World.block_lt_of_cell? w _ hx127_1)).trans hx127_1; replace hx127_2 := (HB.out.cell (World.block_lt_of_cell? w _ hx127_2)).trans hx127_2; replace hx127_3 := (HB.out.cell (World.block_lt_of_cell? w _ hx127_3)).trans hx127_3; replace p127 := eq_true p127; replace q127 := eq_true q127) | (go_at_call 64; (with_reducible refine (sign_find.calls k2 _ _ l0 ((rd_T59 l0 x3_2).f0) t128 _ ?side1 ?side2 A11.out).mono ?_); (case side1 => exact cK (Kd.C_below HR0.out HB.out)); (case side2 => exact HC0.out); rintro e w' ⟨rfl, ⟨nd, rfl⟩⟩; (try first | exact ⟨rfl, _, World.drewN_drewN _ _ _⟩ | exact ⟨rfl, _, Eq.trans (World.drewN_drewN _ _ _) (congrArg (World.drewN _) (Nat.add_assoc _ _ _))⟩))))
          go_ret
          exact ⟨eK, bB⟩
        ·replace c10 := Bool.eq_false_iff.mpr c10
         subst c10
         have H1 : (some false) = some r := by rw [if_neg (show ¬ (false = true) by decide)] at H; exact H
         clear H
         have H := H1
         clear H1
         obtain rfl := Option.some.inj H
         have p125 : 0 ≤ (x3_2 : Int) := of_decide_eq_true aK
         have q125 : x3_2 < (l0.length : Int) := of_decide_eq_true aK
         obtain ⟨ad125, e125, hx125_0, hx125_1, hx125_2, hx125_3⟩ := at_T59 HR0.out x3_2 p125 q125
         cases e125
         replace hx125_0 := (HB.out.cell (World.block_lt_of_cell? w _ hx125_0)).trans hx125_0
         replace hx125_1 := (HB.out.cell (World.block_lt_of_cell? w _ hx125_1)).trans hx125_1
         replace hx125_2 := (HB.out.cell (World.block_lt_of_cell? w _ hx125_2)).trans hx125_2
         replace hx125_3 := (HB.out.cell (World.block_lt_of_cell? w _ hx125_3)).trans hx125_3
         replace p125 := eq_true p125
         replace q125 := eq_true q125
         go_wp2_with (first | (go_at_call 63; (with_reducible refine (sign_SymMay.calls k2 ((rd_T59 l0 x3_2).f0) ((rd_T59 l0 x3_2).f1) ((rd_T59 l0 x3_2).f2) ((rd_T59 l0 x3_2).f3) false _ A9.out).mono ?_); rintro e w15 ⟨rfl, hb⟩; have n0_ := Aside0.mk (below_step bB hb); clear HB; have HB := n0_; clear n0_; (try clear hb); (try clear hb2); (try clear hk); (try clear hi)))
         repeat (go_quiet (first | (go_at_call 63; (with_reducible refine (sign_SymMay.calls k2 ((rd_T59 l0 x3_2).f0) ((rd_T59 l0 x3_2).f1) ((rd_T59 l0 x3_2).f2) ((rd_T59 l0 x3_2).f3) false _ A9.out).mono ?_); rintro e w15 ⟨rfl, hb⟩; have n0_ := Aside0.mk (below_step bB hb); clear HB; have HB := n0_; clear n0_; (try clear hb); (try clear hb2); (try clear hk); (try clear hi))); try go_wp2_with (first | (go_at_call 63; (with_reducible refine (sign_SymMay.calls k2 ((rd_T59 l0 x3_2).f0) ((rd_T59 l0 x3_2).f1) ((rd_T59 l0 x3_2).f2) ((rd_T59 l0 x3_2).f3) false _ A9.out).mono ?_); rintro e w15 ⟨rfl, hb⟩; have n0_ := Aside0.mk (below_step bB hb); clear HB; have HB := n0_; clear n0_; (try clear hb); (try clear hb2); (try clear hk); (try clear hi))))
         go_ret
         exact ⟨eK, bB⟩
       ·rw [if_neg c8] at H
        exact absurd H (by simp)
      ·rw [if_neg c7] at H
       have c7b0 : decide (x3_2 < (l0.length : Int)) = false := decide_eq_false c7
       clear c7
       obtain rfl := Option.some.inj H
       go_wp2
       repeat (go_quiet (fail); try go_wp2)
       go_ret
       exact ⟨eK, bB⟩

/-! ### term_Number: function 54 -/
def term_Number.f (a0 : Int) : Option (Int) := some (wrap64 ((-1) - a0))
set_option maxHeartbeats 8000000 in
set_option maxRecDepth 100000 in
theorem term_Number.calls (a0 : Int) (r : Int) (w : World) (h : term_Number.f a0 = some r) :
  Calls Tryd.prog 54 #[.int .i64 a0] w fun e w' => e = .returned (.int .i64 r) ∧ Drawn0 w w' := by
 have H : (some (wrap64 ((-1) - a0))) = some r := h
 clear h
 obtain rfl := Option.some.inj H
 go_enter Tryd.func54, Tryd.ntmps54
 go_wp2
 go_ret
 exact ⟨sK, by repeat (first | exact Drawn0.refl _ | apply Drawn0.step)⟩

/-! ### term_args: function 72 -/
def term_args.f (l0 : List (S59)) (a1 : Int) : Option (Int × Bool) := if a1 < 0 then ((term_Number.f 23).bind fun t129 => (some (0, decide (a1 ≥ t129)))) else (if a1 ≥ (l0.length : Int) then (some (0, false)) else (if 0 ≤ a1 then (if a1 < (l0.length : Int) then (if ((rd_T59 l0 a1).f1) = 0 then (some (0, false)) else (some ((rd_T59 l0 a1).f2, true))) else (none)) else (none)))
set_option maxHeartbeats 8000000 in
set_option maxRecDepth 100000 in
theorem term_args.calls (A0 : Option Addr) (c0 : Nat) (l0 : List (S59)) (a1 : Int) (r1 : Int) (r2 : Bool) (w : World) (hr0 : Kd.C k59 w A0 l0.length l0) (hc0 : l0.length ≤ c0) (h : term_args.f l0 a1 = some (r1, r2)) :
  Calls Tryd.prog 72 #[.slice A0 l0.length c0, .int .i64 a1] w fun e w' => e = .returned (.tuple #[.int .i64 r1, .bool r2]) ∧ Drawn0 w w' := by
 have HR0 := Aside0.mk hr0
 have HC0 := Aside0.mk hc0
 clear hr0 hc0
 have H : (if a1 < 0 then ((term_Number.f 23).bind fun t129 => (some (0, decide (a1 ≥ t129)))) else (if a1 ≥ (l0.length : Int) then (some (0, false)) else (if 0 ≤ a1 then (if a1 < (l0.length : Int) then (if ((rd_T59 l0 a1).f1) = 0 then (some (0, false)) else (some ((rd_T59 l0 a1).f2, true))) else (none)) else (none)))) = some (r1, r2) := h
 clear h
 by_cases c3 : a1 < 0
 ·rw [if_pos c3] at H
  have c3b0 : decide (a1 < 0) = true := decide_eq_true c3
  clear c3
  replace H := Option.bind_eq_some_iff.mp H
  obtain ⟨t129, A40, H⟩ := H
  replace H : (some (0, decide (a1 ≥ t129))) = some (r1, r2) := H
  have A4 := Aside0.mk A40
  clear A40
  simp only [Option.some.injEq, Prod.mk.injEq] at H
  obtain ⟨rfl, rfl⟩ := H
  go_enter Tryd.func72, Tryd.ntmps72
  go_wp2_with (first | ((with_reducible refine gate_callee (f := 54) rfl ?_); refine goesL_ (some 10) rfl rfl Tryd.func54 (by kernel_rfl) rfl #[.int .i64 23] rfl mA ?_; (with_reducible refine (term_Number.calls 23 t129 _ A4.out).mono ?_); rintro e w' ⟨rfl, ⟨nd, rfl⟩⟩; refine ⟨_, rfl, ?_⟩))
  go_ret2
  exact ⟨sK, by repeat (first | exact Drawn0.refl _ | apply Drawn0.step)⟩
 ·rw [if_neg c3] at H
  have c3b0 : decide (a1 < 0) = false := decide_eq_false c3
  clear c3
  by_cases c5 : a1 ≥ (l0.length : Int)
  ·rw [if_pos c5] at H
   have c5b0 : decide ((l0.length : Int) ≤ a1) = true := decide_eq_true c5
   clear c5
   simp only [Option.some.injEq, Prod.mk.injEq] at H
   obtain ⟨rfl, rfl⟩ := H
   go_enter Tryd.func72, Tryd.ntmps72
   go_wp2
   go_ret2
   exact ⟨sK, by repeat (first | exact Drawn0.refl _ | apply Drawn0.step)⟩
  ·rw [if_neg c5] at H
   have c5b0 : decide ((l0.length : Int) ≤ a1) = false := decide_eq_false c5
   clear c5
   by_cases c6 : 0 ≤ a1
   ·rw [if_pos c6] at H
    have c6b0 : decide (0 ≤ a1) = true := decide_eq_true c6
    clear c6
    by_cases c7 : a1 < (l0.length : Int)
    ·rw [if_pos c7] at H
     have c7b0 : decide (a1 < (l0.length : Int)) = true := decide_eq_true c7
     clear c7
     by_cases c8 : ((rd_T59 l0 a1).f1) = 0
     ·rw [if_pos c8] at H
      have c8b0 : (((rd_T59 l0 a1).f1) == 0) = true := beq_iff_eq.mpr c8
      have c8b1 : (((rd_T59 l0 a1).f1) != 0) = false := bne_eq_false_iff_eq.mpr c8
      clear c8
      simp only [Option.some.injEq, Prod.mk.injEq] at H
      obtain ⟨rfl, rfl⟩ := H
      have p130 : 0 ≤ (a1 : Int) := of_decide_eq_true aK
      have q130 : a1 < (l0.length : Int) := of_decide_eq_true aK
      obtain ⟨ad130, e130, hx130_0, hx130_1, hx130_2, hx130_3⟩ := at_T59 HR0.out a1 p130 q130
      cases e130
      replace p130 := eq_true p130
      replace q130 := eq_true q130
      go_enter Tryd.func72, Tryd.ntmps72
      go_wp2
      go_ret2
      exact ⟨sK, by repeat (first | exact Drawn0.refl _ | apply Drawn0.step)⟩
     ·rw [if_neg c8] at H
      have c8b0 : (((rd_T59 l0 a1).f1) == 0) = false := beq_eq_false_iff_ne.mpr c8
      have c8b1 : (((rd_T59 l0 a1).f1) != 0) = true := bne_iff_ne.mpr c8
      simp only [Option.some.injEq, Prod.mk.injEq] at H
      obtain ⟨rfl, rfl⟩ := H
      have p130 : 0 ≤ (a1 : Int) := of_decide_eq_true aK
      have q130 : a1 < (l0.length : Int) := of_decide_eq_true aK
      obtain ⟨ad130, e130, hx130_0, hx130_1, hx130_2, hx130_3⟩ := at_T59 HR0.out a1 p130 q130
      cases e130
      replace p130 := eq_true p130
      replace q130 := eq_true q130
      have p131 : 0 ≤ (a1 : Int) := of_decide_eq_true aK
      have q131 : a1 < (l0.length : Int) := of_decide_eq_true aK
      obtain ⟨ad131, e131, hx131_0, hx131_1, hx131_2, hx131_3⟩ := at_T59 HR0.out a1 p131 q131
      obtain rfl : ad130 = ad131 := (by injection e131)
      replace p131 := eq_true p131
      replace q131 := eq_true q131
      go_enter Tryd.func72, Tryd.ntmps72
      go_wp2
      go_ret2
      exact ⟨sK, by repeat (first | exact Drawn0.refl _ | apply Drawn0.step)⟩
    ·rw [if_neg c7] at H
     exact absurd H (by simp)
   ·rw [if_neg c6] at H
    exact absurd H (by simp)

/-! ### term_Skip: function 65 -/
def term_Skip.l0 : Nat → List (S59) → List Int → Int → Int → Option (Int × Bool)
 | 0, _, _, _, _ => none
 | k + 1, x0, x1, x2, x8 => if x2 ≥ (x1.length : Int) then (some (0, false)) else (if 0 ≤ x2 then (if x2 < (x1.length : Int) then ((term_args.f x0 (rd x1 x2)).bind fun bt133 => (if bt133.2 = true then (if (wrap64 (x8 + (wrap64 (bt133.1 - 1)))) > 0 then (term_Skip.l0 k x0 x1 (wrap64 (x2 + 1)) (wrap64 (x8 + (wrap64 (bt133.1 - 1))))) else (some (wrap64 (x2 + 1), true))) else (some (0, false)))) else (none)) else (none))
def term_Skip.f (k : Nat) (l0 : List (S59)) (l1 : List Int) (a2 : Int) : Option (Int × Bool) := term_Skip.l0 k l0 l1 a2 1
theorem term_Skip.mono_l : ∀ k, (∀ y0 y1 y2 y3, LeO (term_Skip.l0 k y0 y1 y2 y3) (term_Skip.l0 (k + 1) y0 y1 y2 y3))
 | 0 => fun _ _ _ _ r h => by simp [term_Skip.l0] at h
 | k + 1 => by
  have ih0 := term_Skip.mono_l k
  ·intro y0 y1 y2 y3
   unfold term_Skip.l0
   repeat' first
   | (with_reducible exact ih0 _ _ _ _)
   | (with_reducible exact LeO.refl _)
   | (with_reducible exact LeO.none _)
   | (with_reducible refine LeO.ite ?_ ?_)
   | (with_reducible refine LeO.bind ?_ (fun _ => ?_))
   | exact ih0 _ _ _ _
   | exact LeO.none _
   | refine LeO.ite ?_ ?_
   | refine LeO.bind ?_ (fun _ => ?_)
theorem term_Skip.mono : ∀ a0 a1 a2 k, LeO (term_Skip.f k a0 a1 a2) (term_Skip.f (k + 1) a0 a1 a2) := by
 intro a0 a1 a2 k
 have ih0 := term_Skip.mono_l k
 unfold term_Skip.f
 repeat' first
   | (with_reducible exact ih0 _ _ _ _)
   | (with_reducible exact LeO.refl _)
   | (with_reducible exact LeO.none _)
   | (with_reducible refine LeO.ite ?_ ?_)
   | (with_reducible refine LeO.bind ?_ (fun _ => ?_))
   | exact ih0 _ _ _ _
   | exact LeO.none _
   | refine LeO.ite ?_ ?_
   | refine LeO.bind ?_ (fun _ => ?_)
set_option maxHeartbeats 8000000 in
set_option maxRecDepth 100000 in
theorem term_Skip.calls (k : Nat) (A0 : Option Addr) (c0 : Nat) (l0 : List (S59)) (A1 : Option Addr) (c1 : Nat) (l1 : List Int) (a2 : Int) (r1 : Int) (r2 : Bool) (w : World) (hr0 : Kd.C k59 w A0 l0.length l0) (hc0 : l0.length ≤ c0) (hr1 : Kd.C (Kd.int .i64) w A1 l1.length l1) (hc1 : l1.length ≤ c1) (h : term_Skip.f k l0 l1 a2 = some (r1, r2)) :
  Calls Tryd.prog 65 #[.slice A0 l0.length c0, .slice A1 l1.length c1, .int .i64 a2] w fun e w' => e = .returned (.tuple #[.int .i64 r1, .bool r2]) ∧ Drawn0 w w' := by
 have HR0 := Aside0.mk hr0
 have HC0 := Aside0.mk hc0
 clear hr0 hc0
 have HR1 := Aside0.mk hr1
 have HC1 := Aside0.mk hc1
 clear hr1 hc1
 have H : (term_Skip.l0 k l0 l1 a2 1) = some (r1, r2) := h
 clear h
 have H' := Aside0.mk H
 clear H
 go_enter Tryd.func65, Tryd.ntmps65
 go_wp2
 refine wp_scope_any 0 (by rfl) ?_
 go_wp2
 go_step3
 go_step
 go_step
 refine wp_jumped_loop 0 (fun kq a' w' => ∃ u2 u3 u4 u5 u6 u7 u8 u9 u10 u11 u12 u13 u14 u15 u16 u17 u18 u19 u20 u21 u22 u23 u24 u25 u26 u27 u28 u29 u30 u31 u32 u33 u34 : Value, (∃ (x2_1 : Int) (x8_1 : Int), u2 = .int .i64 x2_1 ∧ u8 = .int .i64 x8_1 ∧ Aside0 (term_Skip.l0 kq l0 l1 x2_1 x8_1 = some (r1, r2)) ∧ Aside0 (kq ≤ k) ∧ Drawn0 w w') ∧ a' = ⟨#[.slice A0 l0.length c0, .slice A1 l1.length c1, u2, u3, u4, u5, u6, u7, u8, u9, u10, u11, u12, u13, u14, u15, u16, u17, u18, u19, u20, u21, u22, u23, u24, u25, u26, u27, u28, u29, u30, u31, u32, u33, u34], []⟩) k ?_ ?_
 ·(repeat apply Exists.intro); refine ⟨?_, rfl⟩
  exact ⟨(a2), (1), sK, sK, H', ⟨Nat.le_refl _⟩, by repeat (first | exact Drawn0.refl _ | apply Drawn0.step)⟩
 ·intro gk _ wr hinv
  obtain ⟨u2, u3, u4, u5, u6, u7, u8, u9, u10, u11, u12, u13, u14, u15, u16, u17, u18, u19, u20, u21, u22, u23, u24, u25, u26, u27, u28, u29, u30, u31, u32, u33, u34, hrel, ha⟩ := hinv
  subst ha
  try dsimp only
  intro _ _ _ _
  clear H'
  try clear c1
  try clear p2
  try clear p3
  obtain ⟨x2_1, x8_1, rfl, rfl, HA, HK1, ⟨m1, rfl⟩⟩ := hrel
  cases gk with
  | zero => exact absurd HA.out (by simp [term_Skip.l0])
  | succ k1 =>
   have H := HA.out
   clear HA
   simp only [term_Skip.l0] at H
   by_cases c4 : x2_1 ≥ (l1.length : Int)
   ·rw [if_pos c4] at H
    have c4b0 : decide ((l1.length : Int) ≤ x2_1) = true := decide_eq_true c4
    clear c4
    simp only [Option.some.injEq, Prod.mk.injEq] at H
    obtain ⟨rfl, rfl⟩ := H
    go_wp2
    (try rw [jump_ret])
    go_ret2
    exact ⟨sK, by repeat (first | exact Drawn0.refl _ | apply Drawn0.step)⟩
   ·rw [if_neg c4] at H
    have c4b0 : decide ((l1.length : Int) ≤ x2_1) = false := decide_eq_false c4
    clear c4
    by_cases c5 : 0 ≤ x2_1
    ·rw [if_pos c5] at H
     have c5b0 : decide (0 ≤ x2_1) = true := decide_eq_true c5
     clear c5
     by_cases c6 : x2_1 < (l1.length : Int)
     ·rw [if_pos c6] at H
      have c6b0 : decide (x2_1 < (l1.length : Int)) = true := decide_eq_true c6
      clear c6
      replace H := Option.bind_eq_some_iff.mp H
      obtain ⟨⟨t133, t134⟩, A70, H⟩ := H
      replace H : (if t134 = true then (if (wrap64 (x8_1 + (wrap64 (t133 - 1)))) > 0 then (term_Skip.l0 k1 l0 l1 (wrap64 (x2_1 + 1)) (wrap64 (x8_1 + (wrap64 (t133 - 1))))) else (some (wrap64 (x2_1 + 1), true))) else (some (0, false))) = some (r1, r2) := H
      have A7 := Aside0.mk A70
      clear A70
      by_cases c8 : t134 = true
      ·subst c8
       have H1 : (if (wrap64 (x8_1 + (wrap64 (t133 - 1)))) > 0 then (term_Skip.l0 k1 l0 l1 (wrap64 (x2_1 + 1)) (wrap64 (x8_1 + (wrap64 (t133 - 1))))) else (some (wrap64 (x2_1 + 1), true))) = some (r1, r2) := by rw [if_pos rfl] at H; exact H
       clear H
       have H := H1
       clear H1
       by_cases c9 : (wrap64 (x8_1 + (wrap64 (t133 - 1)))) > 0
       ·rw [if_pos c9] at H
        have c9b0 : decide (0 < (wrap64 (x8_1 + (wrap64 (t133 - 1))))) = true := decide_eq_true c9
        clear c9
        have H' := Aside0.mk H
        clear H
        have p132 : 0 ≤ (x2_1 : Int) := of_decide_eq_true aK
        have q132 : x2_1 < (l1.length : Int) := of_decide_eq_true aK
        obtain ⟨ad132, e132, hx132_0⟩ := Kd.at_int HR1.out x2_1 p132 q132
        cases e132
        replace p132 := eq_true p132
        replace q132 := eq_true q132
        go_wp2_with (first | ((with_reducible refine gate_callee (f := 72) rfl ?_); refine goesL_ (some 21) rfl rfl Tryd.func72 (by kernel_rfl) rfl #[.slice A0 l0.length c0, .int .i64 (rd l1 x2_1)] rfl mA ?_; (with_reducible refine (term_args.calls _ _ l0 (rd l1 x2_1) t133 true _ ?side1 ?side2 A7.out).mono ?_); (case side1 => exact cK (HR0.out)); (case side2 => exact HC0.out); rintro e w' ⟨rfl, ⟨nd, rfl⟩⟩; refine ⟨_, rfl, ?_⟩))
        go_step3
        refine And.intro rfl ?_
        go_step
        go_roundg k1
        case measure => have := HK1.out; omega
        case rel => exact ⟨(wrap64 (x2_1 + 1)), (wrap64 (x8_1 + (wrap64 (t133 - 1)))), sK, sK, H', ⟨by have := HK1.out; omega⟩, by repeat (first | exact Drawn0.refl _ | apply Drawn0.step)⟩
       ·rw [if_neg c9] at H
        have c9b0 : decide (0 < (wrap64 (x8_1 + (wrap64 (t133 - 1))))) = false := decide_eq_false c9
        clear c9
        simp only [Option.some.injEq, Prod.mk.injEq] at H
        obtain ⟨rfl, rfl⟩ := H
        have p132 : 0 ≤ (x2_1 : Int) := of_decide_eq_true aK
        have q132 : x2_1 < (l1.length : Int) := of_decide_eq_true aK
        obtain ⟨ad132, e132, hx132_0⟩ := Kd.at_int HR1.out x2_1 p132 q132
        cases e132
        replace p132 := eq_true p132
        replace q132 := eq_true q132
        go_wp2_with (first | ((with_reducible refine gate_callee (f := 72) rfl ?_); refine goesL_ (some 21) rfl rfl Tryd.func72 (by kernel_rfl) rfl #[.slice A0 l0.length c0, .int .i64 (rd l1 x2_1)] rfl mA ?_; (with_reducible refine (term_args.calls _ _ l0 (rd l1 x2_1) t133 true _ ?side1 ?side2 A7.out).mono ?_); (case side1 => exact cK (HR0.out)); (case side2 => exact HC0.out); rintro e w' ⟨rfl, ⟨nd, rfl⟩⟩; refine ⟨_, rfl, ?_⟩))
        (try rw [jump_ret])
        go_ret2
        exact ⟨sK, by repeat (first | exact Drawn0.refl _ | apply Drawn0.step)⟩
      ·replace c8 := Bool.eq_false_iff.mpr c8
       subst c8
       have H1 : (some (0, false)) = some (r1, r2) := by rw [if_neg (show ¬ (false = true) by decide)] at H; exact H
       clear H
       have H := H1
       clear H1
       simp only [Option.some.injEq, Prod.mk.injEq] at H
       obtain ⟨rfl, rfl⟩ := H
       have p132 : 0 ≤ (x2_1 : Int) := of_decide_eq_true aK
       have q132 : x2_1 < (l1.length : Int) := of_decide_eq_true aK
       obtain ⟨ad132, e132, hx132_0⟩ := Kd.at_int HR1.out x2_1 p132 q132
       cases e132
       replace p132 := eq_true p132
       replace q132 := eq_true q132
       go_wp2_with (first | ((with_reducible refine gate_callee (f := 72) rfl ?_); refine goesL_ (some 21) rfl rfl Tryd.func72 (by kernel_rfl) rfl #[.slice A0 l0.length c0, .int .i64 (rd l1 x2_1)] rfl mA ?_; (with_reducible refine (term_args.calls _ _ l0 (rd l1 x2_1) t133 false _ ?side1 ?side2 A7.out).mono ?_); (case side1 => exact cK (HR0.out)); (case side2 => exact HC0.out); rintro e w' ⟨rfl, ⟨nd, rfl⟩⟩; refine ⟨_, rfl, ?_⟩))
       (try rw [jump_ret])
       go_ret2
       exact ⟨sK, by repeat (first | exact Drawn0.refl _ | apply Drawn0.step)⟩
     ·rw [if_neg c6] at H
      exact absurd H (by simp)
    ·rw [if_neg c5] at H
     exact absurd H (by simp)

/-! ### term_begins: function 52 -/
mutual
def term_begins.j0 : Nat → List (S59) → List Int → Bool → Option (List Int × Bool)
 | 0, _, _, _ => none
 | k + 1, x0, x1, x17 => if x17 = true then (some (([] : List Int), false)) else (term_begins.l0 k x0 x1 ([] : List Int) 0)
def term_begins.l0 : Nat → List (S59) → List Int → List Int → Int → Option (List Int × Bool)
 | 0, _, _, _, _ => none
 | k + 1, x0, x1, x6, x7 => if x7 = (x1.length : Int) then (some (x6, true)) else ((term_Skip.f k x0 x1 x7).bind fun bt136 => (if bt136.2 = true then (if x6.length < 17592186044416 then (term_begins.l0 k x0 x1 (x6 ++ [x7]) bt136.1) else (none)) else (some (([] : List Int), false))))
end
def term_begins.f (k : Nat) (l0 : List (S59)) (l1 : List Int) : Option (List Int × Bool) := (sign_May.f k l0).bind fun t135 => (if t135 = true then (term_begins.j0 k l0 l1 (decide ((l1.length : Int) > 48))) else (term_begins.j0 k l0 l1 true))
theorem term_begins.mono_l : ∀ k, (∀ y0 y1 y2, LeO (term_begins.j0 k y0 y1 y2) (term_begins.j0 (k + 1) y0 y1 y2)) ∧ (∀ y0 y1 y2 y3, LeO (term_begins.l0 k y0 y1 y2 y3) (term_begins.l0 (k + 1) y0 y1 y2 y3))
 | 0 => ⟨fun _ _ _ r h => by simp [term_begins.j0] at h, fun _ _ _ _ r h => by simp [term_begins.l0] at h⟩
 | k + 1 => by
  obtain ⟨ih0, ih1⟩ := term_begins.mono_l k
  refine ⟨?_, ?_⟩
  ·intro y0 y1 y2
   unfold term_begins.j0
   repeat' first
   | (with_reducible exact ih0 _ _ _)
   | (with_reducible exact ih1 _ _ _ _)
   | (with_reducible exact sign_May.mono _ _)
   | (with_reducible exact term_Skip.mono _ _ _ _)
   | (with_reducible exact LeO.refl _)
   | (with_reducible exact LeO.none _)
   | (with_reducible refine LeO.ite ?_ ?_)
   | (with_reducible refine LeO.bind ?_ (fun _ => ?_))
   | exact ih0 _ _ _
   | exact ih1 _ _ _ _
   | exact sign_May.mono _ _
   | exact term_Skip.mono _ _ _ _
   | exact LeO.none _
   | refine LeO.ite ?_ ?_
   | refine LeO.bind ?_ (fun _ => ?_)
  ·intro y0 y1 y2 y3
   unfold term_begins.l0
   repeat' first
   | (with_reducible exact ih0 _ _ _)
   | (with_reducible exact ih1 _ _ _ _)
   | (with_reducible exact sign_May.mono _ _)
   | (with_reducible exact term_Skip.mono _ _ _ _)
   | (with_reducible exact LeO.refl _)
   | (with_reducible exact LeO.none _)
   | (with_reducible refine LeO.ite ?_ ?_)
   | (with_reducible refine LeO.bind ?_ (fun _ => ?_))
   | exact ih0 _ _ _
   | exact ih1 _ _ _ _
   | exact sign_May.mono _ _
   | exact term_Skip.mono _ _ _ _
   | exact LeO.none _
   | refine LeO.ite ?_ ?_
   | refine LeO.bind ?_ (fun _ => ?_)
theorem term_begins.mono : ∀ a0 a1 k, LeO (term_begins.f k a0 a1) (term_begins.f (k + 1) a0 a1) := by
 intro a0 a1 k
 obtain ⟨ih0, ih1⟩ := term_begins.mono_l k
 unfold term_begins.f
 repeat' first
   | (with_reducible exact ih0 _ _ _)
   | (with_reducible exact ih1 _ _ _ _)
   | (with_reducible exact sign_May.mono _ _)
   | (with_reducible exact term_Skip.mono _ _ _ _)
   | (with_reducible exact LeO.refl _)
   | (with_reducible exact LeO.none _)
   | (with_reducible refine LeO.ite ?_ ?_)
   | (with_reducible refine LeO.bind ?_ (fun _ => ?_))
   | exact ih0 _ _ _
   | exact ih1 _ _ _ _
   | exact sign_May.mono _ _
   | exact term_Skip.mono _ _ _ _
   | exact LeO.none _
   | refine LeO.ite ?_ ?_
   | refine LeO.bind ?_ (fun _ => ?_)
set_option maxHeartbeats 8000000 in
set_option maxRecDepth 100000 in
theorem term_begins.calls (k : Nat) (A0 : Option Addr) (c0 : Nat) (l0 : List (S59)) (A1 : Option Addr) (c1 : Nat) (l1 : List Int) (r1 : List Int) (r2 : Bool) (w : World) (hr0 : Kd.C k59 w A0 l0.length l0) (hc0 : l0.length ≤ c0) (hr1 : Kd.C (Kd.int .i64) w A1 l1.length l1) (hc1 : l1.length ≤ c1) (h : term_begins.f k l0 l1 = some (r1, r2)) (hG : Glob w) :
  Calls Tryd.prog 52 #[.slice A0 l0.length c0, .slice A1 l1.length c1] w fun e w' => ∃ v0_ : Value, e = .returned (.tuple #[v0_, .bool r2]) ∧ Kd.R (Kd.int .i64) 3 w' w.heap.size (fun _ => True) v0_ r1 ∧ Below w.heap.size w w' := by
 have HR0 := Aside0.mk hr0
 have HC0 := Aside0.mk hc0
 clear hr0 hc0
 have HR1 := Aside0.mk hr1
 have HC1 := Aside0.mk hc1
 clear hr1 hc1
 have HB := Aside0.mk (Below.refl w.heap.size w)
 have H : ((sign_May.f k l0).bind fun t135 => (if t135 = true then (term_begins.j0 k l0 l1 (decide ((l1.length : Int) > 48))) else (term_begins.j0 k l0 l1 true))) = some (r1, r2) := h
 clear h
 have HC3 := Aside0.mk H
 clear H
 go_enter Tryd.func52, Tryd.ntmps52
 go_wp2
 refine wp_scope_any 0 (by rfl) ?_
 go_upto_region 1 with (fail)
 go_cut [17] (fun v17 wc => ∃ (kq : Nat) (x17_2 : Bool), v17 = .bool x17_2 ∧ Aside0 (term_begins.j0 kq l0 l1 x17_2 = some (r1, r2)) ∧ Aside0 (kq ≤ k) ∧ Aside0 (Below w.heap.size w wc))
 case first =>
  have H := HC3.out
  clear HC3
  replace H := Option.bind_eq_some_iff.mp H
  obtain ⟨t135, A40, H⟩ := H
  replace H : (if t135 = true then (term_begins.j0 k l0 l1 (decide ((l1.length : Int) > 48))) else (term_begins.j0 k l0 l1 true)) = some (r1, r2) := H
  have A4 := Aside0.mk A40
  clear A40
  by_cases c5 : t135 = true
  ·subst c5
   have H1 : (term_begins.j0 k l0 l1 (decide ((l1.length : Int) > 48))) = some (r1, r2) := by rw [if_pos rfl] at H; exact H
   clear H
   have H := H1
   clear H1
   have H' := Aside0.mk H
   clear H
   go_wp2_with (first | ((with_reducible refine gate_callee (f := 50) rfl ?_); refine goesL_ (some 11) rfl rfl Tryd.func50 (by kernel_rfl) rfl #[.slice A0 l0.length c0] rfl mA ?_; (with_reducible refine (sign_May.calls (hG := gK) k _ _ l0 true _ ?side1 ?side2 A4.out).mono ?_); (case side1 => exact cK (Kd.C_below HR0.out HB.out)); (case side2 => exact HC0.out); rintro e w6 ⟨rfl, hb⟩; refine ⟨_, rfl, ?_⟩; have n0_ := Aside0.mk (below_step bB hb); clear HB; have HB := n0_; clear n0_; (try clear hb); (try clear hb2); (try clear hk); (try clear hi)))
   go_meet
   case rel => exact ⟨_, (decide ((l1.length : Int) > 48)), sK, H', ⟨by first | omega | exact Nat.le_refl _⟩, ⟨bB⟩⟩
  ·replace c5 := Bool.eq_false_iff.mpr c5
   subst c5
   have H1 : (term_begins.j0 k l0 l1 true) = some (r1, r2) := by rw [if_neg (show ¬ (false = true) by decide)] at H; exact H
   clear H
   have H := H1
   clear H1
   have H' := Aside0.mk H
   clear H
   go_wp2_with (first | ((with_reducible refine gate_callee (f := 50) rfl ?_); refine goesL_ (some 11) rfl rfl Tryd.func50 (by kernel_rfl) rfl #[.slice A0 l0.length c0] rfl mA ?_; (with_reducible refine (sign_May.calls (hG := gK) k _ _ l0 false _ ?side1 ?side2 A4.out).mono ?_); (case side1 => exact cK (Kd.C_below HR0.out HB.out)); (case side2 => exact HC0.out); rintro e w7 ⟨rfl, hb⟩; refine ⟨_, rfl, ?_⟩; have n0_ := Aside0.mk (below_step bB hb); clear HB; have HB := n0_; clear n0_; (try clear hb); (try clear hb2); (try clear hk); (try clear hi)))
   go_meet
   case rel => exact ⟨_, (true), sK, H', ⟨by first | omega | exact Nat.le_refl _⟩, ⟨bB⟩⟩
 case rest =>
  clear HC3
  try clear c1
  try clear p2
  try clear c5
  obtain ⟨kq, x17_2, rfl, HA, HJ2, HB⟩ := hcut
  cases kq with
  | zero => exact absurd HA.out (by simp [term_begins.j0])
  | succ kj2 =>
   have H := HA.out
   clear HA
   simp only [term_begins.j0] at H
   by_cases c8 : x17_2 = true
   ·subst c8
    have H1 : (some (([] : List Int), false)) = some (r1, r2) := by rw [if_pos rfl] at H; exact H
    clear H
    have H := H1
    clear H1
    simp only [Option.some.injEq, Prod.mk.injEq] at H
    obtain ⟨rfl, rfl⟩ := H
    go_wp2
    (try rw [jump_ret])
    go_ret2
    exact ⟨_, eK, by first | exact Kd.R_nil _ _ _ _ _ | exact Kd.N_nil _ _ _ _ _ | exact Kd.V_nil _ _ _ _ _ | exact Kd.Q_nil _ _ _ _ _ | exact Kd.S_nil _ _ _ _ _, bB⟩
   ·replace c8 := Bool.eq_false_iff.mpr c8
    subst c8
    have H1 : (term_begins.l0 kj2 l0 l1 ([] : List Int) 0) = some (r1, r2) := by rw [if_neg (show ¬ (false = true) by decide)] at H; exact H
    clear H
    have H := H1
    clear H1
    have H' := Aside0.mk H
    clear H
    go_wp2
    go_step3
    go_step
    go_step
    refine wp_jumped_loop 0 (fun kq a' w' => ∃ u2 u3 u4 u5 u6 u7 u8 u9 u10 u11 u12 u13 u14 u15 u16 u17 u18 u19 u20 u21 u22 u23 u24 u25 u26 u27 u28 u29 u30 u31 u32 u33 u34 u35 u36 : Value, (∃ (x6_2 : List Int) (x7_2 : Int), u7 = .int .i64 x7_2 ∧ Aside0 (term_begins.l0 kq l0 l1 x6_2 x7_2 = some (r1, r2)) ∧ Aside0 (kq ≤ kj2) ∧ Aside0 (Kd.R (Kd.int .i64) 3 w' w.heap.size (fun _ => True) u6 x6_2) ∧ Aside0 (Below w.heap.size w w')) ∧ a' = ⟨#[.slice A0 l0.length c0, .slice A1 l1.length c1, u2, u3, u4, u5, u6, u7, u8, u9, u10, u11, u12, u13, u14, u15, u16, u17, u18, u19, u20, u21, u22, u23, u24, u25, u26, u27, u28, u29, u30, u31, u32, u33, u34, u35, u36], []⟩) kj2 ?_ ?_
    ·(repeat apply Exists.intro); refine ⟨?_, rfl⟩
     exact ⟨(([] : List Int)), (0), sK, H', ⟨Nat.le_refl _⟩, ⟨by first | exact Kd.R_nil _ _ _ _ _ | exact Kd.N_nil _ _ _ _ _ | exact Kd.V_nil _ _ _ _ _ | exact Kd.Q_nil _ _ _ _ _ | exact Kd.S_nil _ _ _ _ _⟩, ⟨bB⟩⟩
    ·intro gk _ wr hinv
     obtain ⟨u2, u3, u4, u5, u6, u7, u8, u9, u10, u11, u12, u13, u14, u15, u16, u17, u18, u19, u20, u21, u22, u23, u24, u25, u26, u27, u28, u29, u30, u31, u32, u33, u34, u35, u36, hrel, ha⟩ := hinv
     subst ha
     try dsimp only
     intro _ _ _ _
     clear H'
     try clear c1
     try clear p2
     try clear p3
     try clear c5
     try clear c8
     try clear p2
     obtain ⟨x6_2, x7_2, rfl, HA, HK2, HO_6, HB⟩ := hrel
     cases gk with
     | zero => exact absurd HA.out (by simp [term_begins.l0])
     | succ k2 =>
      have H := HA.out
      clear HA
      simp only [term_begins.l0] at H
      by_cases c9 : x7_2 = (l1.length : Int)
      ·rw [if_pos c9] at H
       have c9b0 : (x7_2 == (l1.length : Int)) = true := beq_iff_eq.mpr c9
       have c9b1 : (x7_2 != (l1.length : Int)) = false := bne_eq_false_iff_eq.mpr c9
       clear c9
       simp only [Option.some.injEq, Prod.mk.injEq] at H
       obtain ⟨rfl, rfl⟩ := H
       go_wp2
       (try rw [jump_ret])
       go_ret2
       exact ⟨_, eK, by (with_reducible repeat (first | apply Kd.R_alloc | apply Kd.R_drewN | apply Kd.R_drew)); exact HO_6.out, bB⟩
      ·rw [if_neg c9] at H
       have c9b0 : (x7_2 == (l1.length : Int)) = false := beq_eq_false_iff_ne.mpr c9
       have c9b1 : (x7_2 != (l1.length : Int)) = true := bne_iff_ne.mpr c9
       replace H := Option.bind_eq_some_iff.mp H
       obtain ⟨⟨t136, t137⟩, A100, H⟩ := H
       replace H : (if t137 = true then (if x6_2.length < 17592186044416 then (term_begins.l0 k2 l0 l1 (x6_2 ++ [x7_2]) t136) else (none)) else (some (([] : List Int), false))) = some (r1, r2) := H
       have A10 := Aside0.mk A100
       clear A100
       by_cases c11 : t137 = true
       ·subst c11
        have H1 : (if x6_2.length < 17592186044416 then (term_begins.l0 k2 l0 l1 (x6_2 ++ [x7_2]) t136) else (none)) = some (r1, r2) := by rw [if_pos rfl] at H; exact H
        clear H
        have H := H1
        clear H1
        by_cases c12 : x6_2.length < 17592186044416
        ·rw [if_pos c12] at H
         have LMc12 := Aside0.mk c12
         clear c12
         obtain ⟨y138, hy138⟩ : ∃ y_ : List Int, y_ = (x6_2 ++ [x7_2]) := ⟨_, rfl⟩
         replace H : (term_begins.l0 k2 l0 l1 y138 t136) = some (r1, r2) := by first | (rw [hy138]; with_reducible exact H) | (have H2_ := (Option.bind_some _ _).symm.trans H; rw [hy138]; with_reducible exact H2_) | (have H2_ := (Option.bind_some _ _).symm.trans H; with_reducible exact H2_) | with_reducible exact H | (rw [hy138]; exact H) | exact H
         have Ny138 := Aside0.mk hy138
         clear hy138
         have H' := Aside0.mk H
         clear H
         go_wp2_with (first | ((with_reducible refine gate_callee (f := 65) rfl ?_); refine goesL_ (some 27) rfl rfl Tryd.func65 (by kernel_rfl) rfl #[.slice A0 l0.length c0, .slice A1 l1.length c1, .int .i64 x7_2] rfl mA ?_; (with_reducible refine (term_Skip.calls k2 _ _ l0 _ _ l1 x7_2 t136 true _ ?side1 ?side2 ?side3 ?side4 A10.out).mono ?_); (case side1 => exact cK (Kd.C_below HR0.out HB.out)); (case side2 => exact HC0.out); (case side3 => exact cK (Kd.C_below HR1.out HB.out)); (case side4 => exact HC1.out); rintro e w' ⟨rfl, ⟨nd, rfl⟩⟩; refine ⟨_, rfl, ?_⟩) | ((with_reducible refine gate_builtin (b := .append) (xs := #[.tmp 32, .tmp 34]) rfl ?_); (try (refine gate_guard (by rfl) ?_; dsimp only)); at_builtin; refine Kd.R_append (Kd.int .i64) (w0 := w) w.heap.size rfl (.tmp 32) (.tmp 34) 23 3 (.int .i64 0) 8 rfl Tryd.underlying23 info3 rfl (by decide) (by omega) u6 x6_2 x7_2 [.int .i64 x7_2] (fun _ => True) (fun _ => False) rfl rfl ?aP (fun _ hk => hk.elim) ?aF ?aO ?aB ?aS ?aL ?_; (case aP => exact rfl); (case aB => exact bB); (case aF => exact (fun _ _ => trivial)); (case aO => exact (rK HO_6)); (case aS => exact (below_size bB)); (case aL => have := LMc12.out; omega); intro v139 w13 ho hb hg hat; rw [← Ny138.out] at ho; have n0_ := Aside0.mk (hb); have n1_ := Aside0.mk (ho); clear HB; clear HO_6; have HB := n0_; have HO140 := n1_; clear n0_ n1_; clear ho hb hg hat))
         go_step3
         refine And.intro rfl ?_
         go_step
         go_roundg k2
         case measure => have := HJ2.out; have := HK2.out; omega
         case rel => exact ⟨(y138), (t136), sK, H', ⟨by have := HJ2.out; have := HK2.out; omega⟩, ⟨by (with_reducible repeat (first | apply Kd.R_alloc | apply Kd.R_drewN | apply Kd.R_drew)); exact HO140.out⟩, ⟨bB⟩⟩
        ·rw [if_neg c12] at H
         exact absurd H (by simp)
       ·replace c11 := Bool.eq_false_iff.mpr c11
        subst c11
        have H1 : (some (([] : List Int), false)) = some (r1, r2) := by rw [if_neg (show ¬ (false = true) by decide)] at H; exact H
        clear H
        have H := H1
        clear H1
        simp only [Option.some.injEq, Prod.mk.injEq] at H
        obtain ⟨rfl, rfl⟩ := H
        go_wp2_with (first | ((with_reducible refine gate_callee (f := 65) rfl ?_); refine goesL_ (some 27) rfl rfl Tryd.func65 (by kernel_rfl) rfl #[.slice A0 l0.length c0, .slice A1 l1.length c1, .int .i64 x7_2] rfl mA ?_; (with_reducible refine (term_Skip.calls k2 _ _ l0 _ _ l1 x7_2 t136 false _ ?side1 ?side2 ?side3 ?side4 A10.out).mono ?_); (case side1 => exact cK (Kd.C_below HR0.out HB.out)); (case side2 => exact HC0.out); (case side3 => exact cK (Kd.C_below HR1.out HB.out)); (case side4 => exact HC1.out); rintro e w' ⟨rfl, ⟨nd, rfl⟩⟩; refine ⟨_, rfl, ?_⟩))
        (try rw [jump_ret])
        go_ret2
        exact ⟨_, eK, by first | exact Kd.R_nil _ _ _ _ _ | exact Kd.N_nil _ _ _ _ _ | exact Kd.V_nil _ _ _ _ _ | exact Kd.Q_nil _ _ _ _ _ | exact Kd.S_nil _ _ _ _ _, bB⟩

/-! ### term_IsTerm: function 36 -/
def term_IsTerm.f (k : Nat) (l0 : List (S59)) (l1 : List Int) : Option (Bool) := (term_begins.f k l0 l1).bind fun bt141 => (if bt141.2 = true then (some ((bt141.1.length : Int) == 1)) else (some false))
theorem term_IsTerm.mono : ∀ a0 a1 k, LeO (term_IsTerm.f k a0 a1) (term_IsTerm.f (k + 1) a0 a1) := by
 intro a0 a1 k
 unfold term_IsTerm.f
 repeat' first
   | (with_reducible exact term_begins.mono _ _ _)
   | (with_reducible exact LeO.refl _)
   | (with_reducible exact LeO.none _)
   | (with_reducible refine LeO.ite ?_ ?_)
   | (with_reducible refine LeO.bind ?_ (fun _ => ?_))
   | exact term_begins.mono _ _ _
   | exact LeO.none _
   | refine LeO.ite ?_ ?_
   | refine LeO.bind ?_ (fun _ => ?_)
set_option maxHeartbeats 8000000 in
set_option maxRecDepth 100000 in
theorem term_IsTerm.calls (k : Nat) (A0 : Option Addr) (c0 : Nat) (l0 : List (S59)) (A1 : Option Addr) (c1 : Nat) (l1 : List Int) (r : Bool) (w : World) (hr0 : Kd.C k59 w A0 l0.length l0) (hc0 : l0.length ≤ c0) (hr1 : Kd.C (Kd.int .i64) w A1 l1.length l1) (hc1 : l1.length ≤ c1) (h : term_IsTerm.f k l0 l1 = some r) (hG : Glob w) :
  Calls Tryd.prog 36 #[.slice A0 l0.length c0, .slice A1 l1.length c1] w fun e w' => e = .returned (.bool r) ∧ Below w.heap.size w w' := by
 have HR0 := Aside0.mk hr0
 have HC0 := Aside0.mk hc0
 clear hr0 hc0
 have HR1 := Aside0.mk hr1
 have HC1 := Aside0.mk hc1
 clear hr1 hc1
 have HB := Aside0.mk (Below.refl w.heap.size w)
 have H : ((term_begins.f k l0 l1).bind fun bt141 => (if bt141.2 = true then (some ((bt141.1.length : Int) == 1)) else (some false))) = some r := h
 clear h
 replace H := Option.bind_eq_some_iff.mp H
 obtain ⟨⟨t141, t142⟩, A30, H⟩ := H
 replace H : (if t142 = true then (some ((t141.length : Int) == 1)) else (some false)) = some r := H
 have A3 := Aside0.mk A30
 clear A30
 by_cases c4 : t142 = true
 ·subst c4
  have H1 : (some ((t141.length : Int) == 1)) = some r := by rw [if_pos rfl] at H; exact H
  clear H
  have H := H1
  clear H1
  obtain rfl := Option.some.inj H
  go_enter Tryd.func36, Tryd.ntmps36
  go_wp2_with (first | ((with_reducible refine gate_callee (f := 52) rfl ?_); refine goesL_ (some 10) rfl rfl Tryd.func52 (by kernel_rfl) rfl #[.slice A0 l0.length c0, .slice A1 l1.length c1] rfl mA ?_; (with_reducible refine (term_begins.calls (hG := gK) k _ _ l0 _ _ l1 t141 true _ ?side1 ?side2 ?side3 ?side4 A3.out).mono ?_); (case side1 => exact cK (HR0.out)); (case side2 => exact HC0.out); (case side3 => exact cK (HR1.out)); (case side4 => exact HC1.out); rintro e w5 ⟨v143, rfl, ho0, hb⟩; refine ⟨_, rfl, ?_⟩; have n0_ := Aside0.mk (Kd.R_lower ho0 (below_size bB)); have n1_ := Aside0.mk (below_step bB hb); clear HB; have HO144 := n0_; have HB := n1_; clear n0_ n1_; (try clear hb); (try clear hb2); (try clear hk); (try clear hi); (try clear ho0); obtain ⟨Ao6, co6, eo6⟩ := Kd.R_slice HO144.out; subst eo6))
  go_ret
  exact ⟨eK, bB⟩
 ·replace c4 := Bool.eq_false_iff.mpr c4
  subst c4
  have H1 : (some false) = some r := by rw [if_neg (show ¬ (false = true) by decide)] at H; exact H
  clear H
  have H := H1
  clear H1
  obtain rfl := Option.some.inj H
  go_enter Tryd.func36, Tryd.ntmps36
  go_wp2_with (first | ((with_reducible refine gate_callee (f := 52) rfl ?_); refine goesL_ (some 10) rfl rfl Tryd.func52 (by kernel_rfl) rfl #[.slice A0 l0.length c0, .slice A1 l1.length c1] rfl mA ?_; (with_reducible refine (term_begins.calls (hG := gK) k _ _ l0 _ _ l1 t141 false _ ?side1 ?side2 ?side3 ?side4 A3.out).mono ?_); (case side1 => exact cK (HR0.out)); (case side2 => exact HC0.out); (case side3 => exact cK (HR1.out)); (case side4 => exact HC1.out); rintro e w7 ⟨v143, rfl, ho0, hb⟩; refine ⟨_, rfl, ?_⟩; have n0_ := Aside0.mk (Kd.R_lower ho0 (below_size bB)); have n1_ := Aside0.mk (below_step bB hb); clear HB; have HO144 := n0_; have HB := n1_; clear n0_ n1_; (try clear hb); (try clear hb2); (try clear hk); (try clear hi); (try clear ho0)))
  go_ret
  exact ⟨eK, bB⟩

end Go.Proofs.YteffiodbflmfkaaDoor.PP
