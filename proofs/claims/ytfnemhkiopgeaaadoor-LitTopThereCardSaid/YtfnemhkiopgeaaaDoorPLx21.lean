-- written by a program of this session's (wip/tools/pp.py), after the kit's print
import Derived.Test.YtfnemhkiopgeaaaDoorPLx0
import Derived.Test.YtfnemhkiopgeaaaDoorPLx4
import Derived.Test.YtfnemhkiopgeaaaDoorPLx14
import Derived.Test.YtfnemhkiopgeaaaDoorPLx15
import Derived.Test.YtfnemhkiopgeaaaDoorPLx16
namespace Go.Proofs.YtfnemhkiopgeaaaDoor.PL
open Go.RowKit Go.Proofs.YtfnemhkiopgeaaaDoorW.PrintWords Go.Proofs.YtfnemhkiopgeaaaDoorW.PrintLast Go.Proofs.YtfnemhkiopgeaaaDoorW.PrintMore
attribute [local go_sem] jump_ret max2_int min2_int max_two min_two max_three min_three max_four min_four   -- for this text's walks alone
set_option linter.unusedVariables false
set_option linter.unusedSimpArgs false

/-! ### quaerelaw7_LitTopThere: function 7 -/
mutual
def quaerelaw7_LitTopThere.j0 : Nat → List (S58) → List (S25) → List Int → Bool → Option (Bool)
 | 0, _, _, _, _ => none
 | k + 1, x0, x1, x5, x38 => if x38 = true then (some false) else (quaerelaw7_LitTopThere.l0 k x0 x1 x5 0 0)
def quaerelaw7_LitTopThere.l0 : Nat → List (S58) → List (S25) → List Int → Int → Int → Option (Bool)
 | 0, _, _, _, _, _ => none
 | k + 1, x0, x1, x5, x7, x8 => if x8 < (x1.length : Int) then (quaerelaw7_LitTopThere.l1 k x0 x1 x5 x7 x8 false 0) else (some (x7 == (x5.length : Int)))
def quaerelaw7_LitTopThere.l1 : Nat → List (S58) → List (S25) → List Int → Int → Int → Bool → Int → Option (Bool)
 | 0, _, _, _, _, _, _, _ => none
 | k + 1, x0, x1, x5, x7, x8, x9, x10 => if x10 < (x1.length : Int) then (if 0 ≤ x10 then (if 0 ≤ x8 then (if x8 < (x1.length : Int) then ((lit_Compare.f k x0 ((rd_T25 x1 x10).f0) ((rd_T25 x1 x10).f1) ((rd_T25 x1 x8).f0) ((rd_T25 x1 x8).f1)).bind fun bt385 => (if x9 = true then (quaerelaw7_LitTopThere.l1 k x0 x1 x5 x7 x8 true (wrap64 (x10 + 1))) else ((quaerelaw0_Num.f bt385.2).bind fun t387 => (if t387 = 0 then (quaerelaw7_LitTopThere.l1 k x0 x1 x5 x7 x8 (bt385.1 == 2) (wrap64 (x10 + 1))) else (quaerelaw7_LitTopThere.l1 k x0 x1 x5 x7 x8 false (wrap64 (x10 + 1))))))) else (none)) else (none)) else (none)) else (if x7 < (x5.length : Int) then (if 0 ≤ x7 then (quaerelaw7_LitTopThere.j3 k x0 x1 x5 x7 x8 x9 ((rd x5 x7) == x8)) else (none)) else (quaerelaw7_LitTopThere.j3 k x0 x1 x5 x7 x8 x9 false))
def quaerelaw7_LitTopThere.j3 : Nat → List (S58) → List (S25) → List Int → Int → Int → Bool → Bool → Option (Bool)
 | 0, _, _, _, _, _, _, _ => none
 | k + 1, x0, x1, x5, x7, x8, x9, x13 => if (x13 == x9) = true then (some false) else (if x13 = true then (quaerelaw7_LitTopThere.l0 k x0 x1 x5 (wrap64 (x7 + 1)) (wrap64 (x8 + 1))) else (quaerelaw7_LitTopThere.l0 k x0 x1 x5 x7 (wrap64 (x8 + 1))))
end
def quaerelaw7_LitTopThere.f (k : Nat) (l0 : List (S58)) (l1 : List (S25)) : Option (Bool) := (quaerelaw7_awake.f k).bind fun t377 => (if t377 = true then (if (l1.length : Int) > 30 then (some true) else ((lit_Tops.f k l0 l1).bind fun bt378 => ((quaerelaw0_Num.f bt378.2).bind fun t382 => (if t382 = 0 then (if (l1.length : Int) > 0 then (quaerelaw7_LitTopThere.j0 k l0 l1 bt378.1 ((bt378.1.length : Int) == 0)) else (quaerelaw7_LitTopThere.j0 k l0 l1 bt378.1 false)) else (some ((bt378.1.length : Int) == 0)))))) else (some false))
theorem quaerelaw7_LitTopThere.mono_l : ∀ k, (∀ y0 y1 y2 y3, LeO (quaerelaw7_LitTopThere.j0 k y0 y1 y2 y3) (quaerelaw7_LitTopThere.j0 (k + 1) y0 y1 y2 y3)) ∧ (∀ y0 y1 y2 y3 y4, LeO (quaerelaw7_LitTopThere.l0 k y0 y1 y2 y3 y4) (quaerelaw7_LitTopThere.l0 (k + 1) y0 y1 y2 y3 y4)) ∧ (∀ y0 y1 y2 y3 y4 y5 y6, LeO (quaerelaw7_LitTopThere.l1 k y0 y1 y2 y3 y4 y5 y6) (quaerelaw7_LitTopThere.l1 (k + 1) y0 y1 y2 y3 y4 y5 y6)) ∧ (∀ y0 y1 y2 y3 y4 y5 y6, LeO (quaerelaw7_LitTopThere.j3 k y0 y1 y2 y3 y4 y5 y6) (quaerelaw7_LitTopThere.j3 (k + 1) y0 y1 y2 y3 y4 y5 y6))
 | 0 => ⟨fun _ _ _ _ r h => by simp [quaerelaw7_LitTopThere.j0] at h, fun _ _ _ _ _ r h => by simp [quaerelaw7_LitTopThere.l0] at h, fun _ _ _ _ _ _ _ r h => by simp [quaerelaw7_LitTopThere.l1] at h, fun _ _ _ _ _ _ _ r h => by simp [quaerelaw7_LitTopThere.j3] at h⟩
 | k + 1 => by
  obtain ⟨ih0, ih1, ih2, ih3⟩ := quaerelaw7_LitTopThere.mono_l k
  refine ⟨?_, ?_, ?_, ?_⟩
  ·intro y0 y1 y2 y3
   unfold quaerelaw7_LitTopThere.j0
   repeat' first
   | (with_reducible exact ih0 _ _ _ _)
   | (with_reducible exact ih1 _ _ _ _ _)
   | (with_reducible exact ih2 _ _ _ _ _ _ _)
   | (with_reducible exact ih3 _ _ _ _ _ _ _)
   | (with_reducible exact lit_Compare.mono _ _ _ _ _ _)
   | (with_reducible exact lit_Tops.mono _ _ _)
   | (with_reducible exact quaerelaw7_awake.mono _)
   | (with_reducible exact LeO.refl _)
   | (with_reducible exact LeO.none _)
   | (with_reducible refine LeO.ite ?_ ?_)
   | (with_reducible refine LeO.bind ?_ (fun _ => ?_))
   | exact ih0 _ _ _ _
   | exact ih1 _ _ _ _ _
   | exact ih2 _ _ _ _ _ _ _
   | exact ih3 _ _ _ _ _ _ _
   | exact lit_Compare.mono _ _ _ _ _ _
   | exact lit_Tops.mono _ _ _
   | exact quaerelaw7_awake.mono _
   | exact LeO.none _
   | refine LeO.ite ?_ ?_
   | refine LeO.bind ?_ (fun _ => ?_)
  ·intro y0 y1 y2 y3 y4
   unfold quaerelaw7_LitTopThere.l0
   repeat' first
   | (with_reducible exact ih0 _ _ _ _)
   | (with_reducible exact ih1 _ _ _ _ _)
   | (with_reducible exact ih2 _ _ _ _ _ _ _)
   | (with_reducible exact ih3 _ _ _ _ _ _ _)
   | (with_reducible exact lit_Compare.mono _ _ _ _ _ _)
   | (with_reducible exact lit_Tops.mono _ _ _)
   | (with_reducible exact quaerelaw7_awake.mono _)
   | (with_reducible exact LeO.refl _)
   | (with_reducible exact LeO.none _)
   | (with_reducible refine LeO.ite ?_ ?_)
   | (with_reducible refine LeO.bind ?_ (fun _ => ?_))
   | exact ih0 _ _ _ _
   | exact ih1 _ _ _ _ _
   | exact ih2 _ _ _ _ _ _ _
   | exact ih3 _ _ _ _ _ _ _
   | exact lit_Compare.mono _ _ _ _ _ _
   | exact lit_Tops.mono _ _ _
   | exact quaerelaw7_awake.mono _
   | exact LeO.none _
   | refine LeO.ite ?_ ?_
   | refine LeO.bind ?_ (fun _ => ?_)
  ·intro y0 y1 y2 y3 y4 y5 y6
   unfold quaerelaw7_LitTopThere.l1
   repeat' first
   | (with_reducible exact ih0 _ _ _ _)
   | (with_reducible exact ih1 _ _ _ _ _)
   | (with_reducible exact ih2 _ _ _ _ _ _ _)
   | (with_reducible exact ih3 _ _ _ _ _ _ _)
   | (with_reducible exact lit_Compare.mono _ _ _ _ _ _)
   | (with_reducible exact lit_Tops.mono _ _ _)
   | (with_reducible exact quaerelaw7_awake.mono _)
   | (with_reducible exact LeO.refl _)
   | (with_reducible exact LeO.none _)
   | (with_reducible refine LeO.ite ?_ ?_)
   | (with_reducible refine LeO.bind ?_ (fun _ => ?_))
   | exact ih0 _ _ _ _
   | exact ih1 _ _ _ _ _
   | exact ih2 _ _ _ _ _ _ _
   | exact ih3 _ _ _ _ _ _ _
   | exact lit_Compare.mono _ _ _ _ _ _
   | exact lit_Tops.mono _ _ _
   | exact quaerelaw7_awake.mono _
   | exact LeO.none _
   | refine LeO.ite ?_ ?_
   | refine LeO.bind ?_ (fun _ => ?_)
  ·intro y0 y1 y2 y3 y4 y5 y6
   unfold quaerelaw7_LitTopThere.j3
   repeat' first
   | (with_reducible exact ih0 _ _ _ _)
   | (with_reducible exact ih1 _ _ _ _ _)
   | (with_reducible exact ih2 _ _ _ _ _ _ _)
   | (with_reducible exact ih3 _ _ _ _ _ _ _)
   | (with_reducible exact lit_Compare.mono _ _ _ _ _ _)
   | (with_reducible exact lit_Tops.mono _ _ _)
   | (with_reducible exact quaerelaw7_awake.mono _)
   | (with_reducible exact LeO.refl _)
   | (with_reducible exact LeO.none _)
   | (with_reducible refine LeO.ite ?_ ?_)
   | (with_reducible refine LeO.bind ?_ (fun _ => ?_))
   | exact ih0 _ _ _ _
   | exact ih1 _ _ _ _ _
   | exact ih2 _ _ _ _ _ _ _
   | exact ih3 _ _ _ _ _ _ _
   | exact lit_Compare.mono _ _ _ _ _ _
   | exact lit_Tops.mono _ _ _
   | exact quaerelaw7_awake.mono _
   | exact LeO.none _
   | refine LeO.ite ?_ ?_
   | refine LeO.bind ?_ (fun _ => ?_)
theorem quaerelaw7_LitTopThere.mono : ∀ a0 a1 k, LeO (quaerelaw7_LitTopThere.f k a0 a1) (quaerelaw7_LitTopThere.f (k + 1) a0 a1) := by
 intro a0 a1 k
 obtain ⟨ih0, ih1, ih2, ih3⟩ := quaerelaw7_LitTopThere.mono_l k
 unfold quaerelaw7_LitTopThere.f
 repeat' first
   | (with_reducible exact ih0 _ _ _ _)
   | (with_reducible exact ih1 _ _ _ _ _)
   | (with_reducible exact ih2 _ _ _ _ _ _ _)
   | (with_reducible exact ih3 _ _ _ _ _ _ _)
   | (with_reducible exact lit_Compare.mono _ _ _ _ _ _)
   | (with_reducible exact lit_Tops.mono _ _ _)
   | (with_reducible exact quaerelaw7_awake.mono _)
   | (with_reducible exact LeO.refl _)
   | (with_reducible exact LeO.none _)
   | (with_reducible refine LeO.ite ?_ ?_)
   | (with_reducible refine LeO.bind ?_ (fun _ => ?_))
   | exact ih0 _ _ _ _
   | exact ih1 _ _ _ _ _
   | exact ih2 _ _ _ _ _ _ _
   | exact ih3 _ _ _ _ _ _ _
   | exact lit_Compare.mono _ _ _ _ _ _
   | exact lit_Tops.mono _ _ _
   | exact quaerelaw7_awake.mono _
   | exact LeO.none _
   | refine LeO.ite ?_ ?_
   | refine LeO.bind ?_ (fun _ => ?_)
def quaerelaw7_LitTopThere.T18 : Bool × List (List Nat × List Nat) := (true, [([], []), ([], []), ([], []), ([1, 2], [1, 2]), ([3], [3]), ([], []), ([], []), ([5, 6], [5, 6]), ([7], [7]), ([0, 4, 8], [0, 4, 8]), ([9], [9]), ([10], [10]), ([10], [10]), ([11, 9, 0, 1, 2, 3, 4, 5, 6, 7, 8, 9, 10, 11], [11]), ([12, 13, 0, 1, 2, 3, 4, 5, 6, 7, 8, 9, 10, 11, 12, 13], [12])])
def quaerelaw7_LitTopThere.B18 : List Nat := [0, 0, 0, 6, 14, 0, 0, 96, 224, 511, 1023, 2047, 2047, 4095, 16383]
theorem quaerelaw7_LitTopThere.tab18 : rtab .any (opsOf Tryd.f7 18) = quaerelaw7_LitTopThere.T18 := by kernel_rfl
theorem quaerelaw7_LitTopThere.bits18 : waitsOk quaerelaw7_LitTopThere.T18.2 quaerelaw7_LitTopThere.B18 = true := by kernel_rfl
set_option maxHeartbeats 8000000 in
set_option maxRecDepth 100000 in
theorem quaerelaw7_LitTopThere.calls (k : Nat) (A0 : Option Addr) (c0 : Nat) (l0 : List (S58)) (A1 : Option Addr) (c1 : Nat) (l1 : List (S25)) (r : Bool) (w : World) (hr0 : Kd.C k58 w A0 l0.length l0) (hc0 : l0.length ≤ c0) (hr1 : Kd.C k25 w A1 l1.length l1) (hc1 : l1.length ≤ c1) (h : quaerelaw7_LitTopThere.f k l0 l1 = some r) (hG : Glob w) :
  Calls Tryd.prog 7 #[.slice A0 l0.length c0, .slice A1 l1.length c1] w fun e w' => e = .returned (.bool r) ∧ Below w.heap.size w w' := by
 have hu25 := Tryd.underlying25
 have HR0 := Aside0.mk hr0
 have HC0 := Aside0.mk hc0
 clear hr0 hc0
 have HR1 := Aside0.mk hr1
 have HC1 := Aside0.mk hc1
 clear hr1 hc1
 have HB := Aside0.mk (Below.refl w.heap.size w)
 have H : ((quaerelaw7_awake.f k).bind fun t377 => (if t377 = true then (if (l1.length : Int) > 30 then (some true) else ((lit_Tops.f k l0 l1).bind fun bt378 => ((quaerelaw0_Num.f bt378.2).bind fun t382 => (if t382 = 0 then (if (l1.length : Int) > 0 then (quaerelaw7_LitTopThere.j0 k l0 l1 bt378.1 ((bt378.1.length : Int) == 0)) else (quaerelaw7_LitTopThere.j0 k l0 l1 bt378.1 false)) else (some ((bt378.1.length : Int) == 0)))))) else (some false))) = some r := h
 clear h
 replace H := Option.bind_eq_some_iff.mp H
 obtain ⟨t377, A30, H⟩ := H
 replace H : (if t377 = true then (if (l1.length : Int) > 30 then (some true) else ((lit_Tops.f k l0 l1).bind fun bt378 => ((quaerelaw0_Num.f bt378.2).bind fun t382 => (if t382 = 0 then (if (l1.length : Int) > 0 then (quaerelaw7_LitTopThere.j0 k l0 l1 bt378.1 ((bt378.1.length : Int) == 0)) else (quaerelaw7_LitTopThere.j0 k l0 l1 bt378.1 false)) else (some ((bt378.1.length : Int) == 0)))))) else (some false)) = some r := H
 have A3 := Aside0.mk A30
 clear A30
 by_cases c4 : t377 = true
 ·subst c4
  have H1 : (if (l1.length : Int) > 30 then (some true) else ((lit_Tops.f k l0 l1).bind fun bt378 => ((quaerelaw0_Num.f bt378.2).bind fun t382 => (if t382 = 0 then (if (l1.length : Int) > 0 then (quaerelaw7_LitTopThere.j0 k l0 l1 bt378.1 ((bt378.1.length : Int) == 0)) else (quaerelaw7_LitTopThere.j0 k l0 l1 bt378.1 false)) else (some ((bt378.1.length : Int) == 0)))))) = some r := by rw [if_pos rfl] at H; exact H
  clear H
  have H := H1
  clear H1
  by_cases c5 : (l1.length : Int) > 30
  ·rw [if_pos c5] at H
   have c5b0 : decide (30 < (l1.length : Int)) = true := decide_eq_true c5
   have c5b1 : decide (30 < l1.length) = true := decide_eq_true (by omega)
   clear c5
   obtain rfl := Option.some.inj H
   go_enter Tryd.func7, Tryd.ntmps7
   go_wp2_with (first | ((with_reducible refine gate_callee (f := 18) rfl ?_); refine goesL_ (some 14) rfl rfl Tryd.func18 (by kernel_rfl) rfl #[] rfl mA ?_; (with_reducible refine (quaerelaw7_awake.calls (hG := gK) k  true _ A3.out).mono ?_); rintro e w6 ⟨rfl, hb⟩; refine ⟨_, rfl, ?_⟩; have n0_ := Aside0.mk (below_step bB hb); clear HB; have HB := n0_; clear n0_; (try clear hb); (try clear hb2); (try clear hk); (try clear hi)))
   go_ret
   exact ⟨eK, bB⟩
  ·rw [if_neg c5] at H
   have c5b0 : decide (30 < (l1.length : Int)) = false := decide_eq_false c5
   have c5b1 : decide (30 < l1.length) = false := decide_eq_false (by omega)
   clear c5
   replace H := Option.bind_eq_some_iff.mp H
   obtain ⟨⟨t378, t379⟩, A70, H⟩ := H
   replace H : ((quaerelaw0_Num.f t379).bind fun t382 => (if t382 = 0 then (if (l1.length : Int) > 0 then (quaerelaw7_LitTopThere.j0 k l0 l1 t378 ((t378.length : Int) == 0)) else (quaerelaw7_LitTopThere.j0 k l0 l1 t378 false)) else (some ((t378.length : Int) == 0)))) = some r := H
   have A7 := Aside0.mk A70
   clear A70
   replace H := Option.bind_eq_some_iff.mp H
   obtain ⟨t382, A80, H⟩ := H
   replace H : (if t382 = 0 then (if (l1.length : Int) > 0 then (quaerelaw7_LitTopThere.j0 k l0 l1 t378 ((t378.length : Int) == 0)) else (quaerelaw7_LitTopThere.j0 k l0 l1 t378 false)) else (some ((t378.length : Int) == 0))) = some r := H
   have A8 := Aside0.mk A80
   clear A80
   by_cases c9 : t382 = 0
   ·rw [if_pos c9] at H
    have c9b0 : (t382 == 0) = true := beq_iff_eq.mpr c9
    have c9b1 : (t382 != 0) = false := bne_eq_false_iff_eq.mpr c9
    clear c9
    have HC10 := Aside0.mk H
    clear H
    go_enter Tryd.func7, Tryd.ntmps7
    go_upto_region 8 with (first | ((with_reducible refine gate_callee (f := 18) rfl ?_); refine goesL_ (some 14) rfl rfl Tryd.func18 (by kernel_rfl) rfl #[] rfl mA ?_; (with_reducible refine (quaerelaw7_awake.calls (hG := gK) k  true _ A3.out).mono ?_); rintro e w11 ⟨rfl, hb⟩; refine ⟨_, rfl, ?_⟩; have n0_ := Aside0.mk (below_step bB hb); clear HB; have HB := n0_; clear n0_; (try clear hb); (try clear hb2); (try clear hk); (try clear hi)) | ((with_reducible refine gate_callee (f := 19) rfl ?_); refine goesL_ (some 22) rfl rfl Tryd.func19 (by kernel_rfl) rfl #[.slice A0 l0.length c0, .slice A1 l1.length c1] rfl mA ?_; (with_reducible refine (lit_Tops.calls (hG := gK) k _ _ l0 _ _ l1 t378 t379 _ ?side1 ?side2 ?side3 ?side4 A7.out).mono ?_); (case side1 => exact cK (Kd.C_below HR0.out HB.out)); (case side2 => exact HC0.out); (case side3 => exact cK (Kd.C_below HR1.out HB.out)); (case side4 => exact HC1.out); rintro e w12 ⟨v380, rfl, ho0, hb⟩; refine ⟨_, rfl, ?_⟩; have n0_ := Aside0.mk (Kd.R_lower ho0 (below_size bB)); have n1_ := Aside0.mk (below_step bB hb); clear HB; have HO381 := n0_; have HB := n1_; clear n0_ n1_; (try clear hb); (try clear hb2); (try clear hk); (try clear hi); (try clear ho0)) | ((with_reducible refine gate_callee (f := 16) rfl ?_); refine goesL_ (some 26) rfl rfl Tryd.func16 (by kernel_rfl) rfl #[.int .i64 t379] rfl mA ?_; (with_reducible refine (quaerelaw0_Num.calls t379 t382 _ A8.out).mono ?_); rintro e w' ⟨rfl, ⟨nd, rfl⟩⟩; refine ⟨_, rfl, ?_⟩))
    (try simp only [Act.put, List.setIfInBounds_toArray, List.set_cons_zero, List.set_cons_succ])
    go_cut [38] (fun v38 wc => ∃ (kq : Nat) (x38_9 : Bool), v38 = .bool x38_9 ∧ Aside0 (quaerelaw7_LitTopThere.j0 kq l0 l1 t378 x38_9 = some r) ∧ Aside0 (kq ≤ k) ∧ Aside0 (Kd.R (Kd.int .i64) 3 wc w.heap.size (fun _ => True) v380 t378) ∧ Aside0 (Below w.heap.size w wc))
    case first =>
     have H := HC10.out
     clear HC10
     by_cases c13 : (l1.length : Int) > 0
     ·rw [if_pos c13] at H
      have c13b0 : decide (0 < (l1.length : Int)) = true := decide_eq_true c13
      have c13b1 : decide (0 < l1.length) = true := decide_eq_true (by omega)
      clear c13
      (first | rw [c13b0] | (simp only [i64_w, i32_w]; rw [c13b0]) | skip)
      have H' := Aside0.mk H
      clear H
      obtain ⟨Ao14, co14, eo14⟩ := Kd.R_slice HO381.out
      subst eo14
      go_wp2
      go_meet
      case rel => exact ⟨_, (((t378.length : Int) == 0)), sK, H', ⟨by first | omega | exact Nat.le_refl _⟩, ⟨by (with_reducible repeat (first | apply Kd.R_alloc | apply Kd.R_drewN | apply Kd.R_drew)); exact HO381.out⟩, ⟨bB⟩⟩
     ·rw [if_neg c13] at H
      have c13b0 : decide (0 < (l1.length : Int)) = false := decide_eq_false c13
      have c13b1 : decide (0 < l1.length) = false := decide_eq_false (by omega)
      clear c13
      (first | rw [c13b0] | (simp only [i64_w, i32_w]; rw [c13b0]) | skip)
      have H' := Aside0.mk H
      clear H
      go_wp2
      go_meet
      case rel => exact ⟨_, (false), sK, H', ⟨by first | omega | exact Nat.le_refl _⟩, ⟨by (with_reducible repeat (first | apply Kd.R_alloc | apply Kd.R_drewN | apply Kd.R_drew)); exact HO381.out⟩, ⟨bB⟩⟩
    case rest =>
     clear HC10
     try clear c1
     try clear p2
     try clear c4
     try clear c5
     try clear c5b0
     try clear c5b1
     try clear c7
     try clear c9
     try clear c9b0
     try clear c9b1
     try clear c13
     try clear c13b0
     try clear c13b1
     obtain ⟨kq, x38_9, rfl, HA, HJ9, HO_5, HB⟩ := hcut
     cases kq with
     | zero => exact absurd HA.out (by simp [quaerelaw7_LitTopThere.j0])
     | succ kj9 =>
      have H := HA.out
      clear HA
      simp only [quaerelaw7_LitTopThere.j0] at H
      by_cases c15 : x38_9 = true
      ·subst c15
       have H1 : (some false) = some r := by rw [if_pos rfl] at H; exact H
       clear H
       have H := H1
       clear H1
       obtain rfl := Option.some.inj H
       go_wp2
       go_ret
       exact ⟨eK, bB⟩
      ·replace c15 := Bool.eq_false_iff.mpr c15
       subst c15
       have H1 : (quaerelaw7_LitTopThere.l0 kj9 l0 l1 t378 0 0) = some r := by rw [if_neg (show ¬ (false = true) by decide)] at H; exact H
       clear H
       have H := H1
       clear H1
       have H' := Aside0.mk H
       clear H
       go_wp2
       go_loopg [7, 8] kj9 (fun kq v7 v8 w' => ∃ (x7_2 : Int) (x8_2 : Int), v7 = .int .i64 x7_2 ∧ v8 = .int .i64 x8_2 ∧ Aside0 (quaerelaw7_LitTopThere.l0 kq l0 l1 t378 x7_2 x8_2 = some r) ∧ Aside0 (kq ≤ kj9) ∧ Aside0 (Kd.R (Kd.int .i64) 3 w' w.heap.size (fun _ => True) v380 t378) ∧ Aside0 (Below w.heap.size w w'))
       case atStart => exact ⟨(0), (0), sK, sK, H', ⟨Nat.le_refl _⟩, ⟨by (with_reducible repeat (first | apply Kd.R_alloc | apply Kd.R_drewN | apply Kd.R_drew)); exact HO_5.out⟩, ⟨bB⟩⟩
       case round =>
        clear H'
        try clear c1
        try clear p2
        try clear c4
        try clear c5
        try clear c5b0
        try clear c5b1
        try clear c7
        try clear c9
        try clear c9b0
        try clear c9b1
        try clear c13
        try clear c13b0
        try clear c13b1
        try clear c15
        try clear p2
        obtain ⟨x7_2, x8_2, rfl, rfl, HA, HK2, HO_5, HB⟩ := hrel
        cases gk with
        | zero => exact absurd HA.out (by simp [quaerelaw7_LitTopThere.l0])
        | succ k2 =>
         have H := HA.out
         clear HA
         simp only [quaerelaw7_LitTopThere.l0] at H
         by_cases c16 : x8_2 < (l1.length : Int)
         ·rw [if_pos c16] at H
          have c16b0 : decide (x8_2 < (l1.length : Int)) = true := decide_eq_true c16
          clear c16
          have H' := Aside0.mk H
          clear H
          go_wp2
          go_loopg [9, 10] k2 (fun kq v9 v10 w' => ∃ (x9_3 : Bool) (x10_3 : Int), v9 = .bool x9_3 ∧ v10 = .int .i64 x10_3 ∧ Aside0 (quaerelaw7_LitTopThere.l1 kq l0 l1 t378 x7_2 x8_2 x9_3 x10_3 = some r) ∧ Aside0 (kq ≤ k2) ∧ Aside0 (Kd.R (Kd.int .i64) 3 w' w.heap.size (fun _ => True) v380 t378) ∧ Aside0 (Below w.heap.size w w'))
          case atStart => exact ⟨(false), (0), sK, sK, H', ⟨Nat.le_refl _⟩, ⟨by (with_reducible repeat (first | apply Kd.R_alloc | apply Kd.R_drewN | apply Kd.R_drew)); exact HO_5.out⟩, ⟨bB⟩⟩
          case round =>
           clear H'
           try clear c1
           try clear p2
           try clear c4
           try clear c5
           try clear c5b0
           try clear c5b1
           try clear c7
           try clear c9
           try clear c9b0
           try clear c9b1
           try clear c13
           try clear c13b0
           try clear c13b1
           try clear c15
           try clear c16
           try clear c16b0
           try clear p2
           obtain ⟨x9_3, x10_3, rfl, rfl, HA, HK3, HO_5, HB⟩ := hrel
           cases gk with
           | zero => exact absurd HA.out (by simp [quaerelaw7_LitTopThere.l1])
           | succ k3 =>
            have H := HA.out
            clear HA
            simp only [quaerelaw7_LitTopThere.l1] at H
            by_cases c17 : x10_3 < (l1.length : Int)
            ·rw [if_pos c17] at H
             have c17b0 : decide (x10_3 < (l1.length : Int)) = true := decide_eq_true c17
             clear c17
             by_cases c18 : 0 ≤ x10_3
             ·rw [if_pos c18] at H
              have c18b0 : decide (0 ≤ x10_3) = true := decide_eq_true c18
              clear c18
              by_cases c19 : 0 ≤ x8_2
              ·rw [if_pos c19] at H
               have c19b0 : decide (0 ≤ x8_2) = true := decide_eq_true c19
               clear c19
               by_cases c20 : x8_2 < (l1.length : Int)
               ·rw [if_pos c20] at H
                have c20b0 : decide (x8_2 < (l1.length : Int)) = true := decide_eq_true c20
                clear c20
                replace H := Option.bind_eq_some_iff.mp H
                obtain ⟨⟨t385, t386⟩, A210, H⟩ := H
                replace H : (if x9_3 = true then (quaerelaw7_LitTopThere.l1 k3 l0 l1 t378 x7_2 x8_2 true (wrap64 (x10_3 + 1))) else ((quaerelaw0_Num.f t386).bind fun t387 => (if t387 = 0 then (quaerelaw7_LitTopThere.l1 k3 l0 l1 t378 x7_2 x8_2 (t385 == 2) (wrap64 (x10_3 + 1))) else (quaerelaw7_LitTopThere.l1 k3 l0 l1 t378 x7_2 x8_2 false (wrap64 (x10_3 + 1)))))) = some r := H
                have A21 := Aside0.mk A210
                clear A210
                by_cases c22 : x9_3 = true
                ·subst c22
                 have H1 : (quaerelaw7_LitTopThere.l1 k3 l0 l1 t378 x7_2 x8_2 true (wrap64 (x10_3 + 1))) = some r := by rw [if_pos rfl] at H; exact H
                 clear H
                 have H := H1
                 clear H1
                 have H' := Aside0.mk H
                 clear H
                 try go_wp2
                 have n0_ := Aside0.mk (Kd.R_drew HO_5.out)
                 have n1_ := Aside0.mk (below_drew1 HB.out)
                 clear HO_5 HB
                 have HO_5 := n0_
                 have HB := n1_
                 clear n0_ n1_
                 have p383 : 0 ≤ (x10_3 : Int) := of_decide_eq_true aK
                 have q383 : x10_3 < (l1.length : Int) := of_decide_eq_true aK
                 obtain ⟨ad383, A383_1, c383_1, e383, hx383_0, hx383_1, hl383_1, hi383_1⟩ := at_T25 HR1.out x10_3 p383 q383
                 have hw383_1 := hx383_1
                 have hw383_0 := hx383_0
                 cases e383
                 replace hx383_0 := (HB.out.cell (World.block_lt_of_cell? w _ hx383_0)).trans hx383_0
                 replace hx383_1 := (HB.out.cell (World.block_lt_of_cell? w _ hx383_1)).trans hx383_1
                 have HR383_1 := Aside0.mk hi383_1
                 have HC383_1 := Aside0.mk hl383_1
                 clear hi383_1 hl383_1
                 replace p383 := eq_true p383
                 replace q383 := eq_true q383
                 have p384 : 0 ≤ (x8_2 : Int) := of_decide_eq_true aK
                 have q384 : x8_2 < (l1.length : Int) := of_decide_eq_true aK
                 obtain ⟨ad384, A384_1, c384_1, e384, hx384_0, hx384_1, hl384_1, hi384_1⟩ := at_T25 HR1.out x8_2 p384 q384
                 have hw384_1 := hx384_1
                 have hw384_0 := hx384_0
                 obtain rfl : ad383 = ad384 := (by injection e384)
                 replace hx384_0 := (HB.out.cell (World.block_lt_of_cell? w _ hx384_0)).trans hx384_0
                 replace hx384_1 := (HB.out.cell (World.block_lt_of_cell? w _ hx384_1)).trans hx384_1
                 have HR384_1 := Aside0.mk hi384_1
                 have HC384_1 := Aside0.mk hl384_1
                 clear hi384_1 hl384_1
                 replace p384 := eq_true p384
                 replace q384 := eq_true q384
                 refine start_ (n := 15) (S := fun w' => w'.cell? (ad383.add ((x10_3).toNat * 2)) = some (.bool ((rd_T25 l1 x10_3).f0)) ∧ w'.cell? ⟨(ad383.add ((x10_3).toNat * 2)).block, (ad383.add ((x10_3).toNat * 2)).off + 1, none⟩ = some (.slice A383_1 ((rd_T25 l1 x10_3).f1).length c383_1) ∧ w'.cell? (ad383.add ((x8_2).toNat * 2)) = some (.bool ((rd_T25 l1 x8_2).f0)) ∧ w'.cell? ⟨(ad383.add ((x8_2).toNat * 2)).block, (ad383.add ((x8_2).toNat * 2)).off + 1, none⟩ = some (.slice A384_1 ((rd_T25 l1 x8_2).f1).length c384_1)) (ds := []) #[false, false, false, false, false, false, false, false, false, false, false, false, false, false, false] (by kernel_rfl) rfl rfl ⟨((HB.out.cell (World.block_lt_of_cell? w _ hw383_0)).trans hw383_0), ((HB.out.cell (World.block_lt_of_cell? w _ hw383_1)).trans hw383_1), ((HB.out.cell (World.block_lt_of_cell? w _ hw384_0)).trans hw384_0), ((HB.out.cell (World.block_lt_of_cell? w _ hw384_1)).trans hw384_1)⟩ (fun hHeld => ?_); refine with_tabW quaerelaw7_LitTopThere.tab18 quaerelaw7_LitTopThere.bits18 (fun HT_ HW_ => ?_)
                 generalize wr.drew = w23 at HO_5 HB HR383_1 HR384_1 hx383_0 hx383_1 hx384_0 hx384_1 hHeld ⊢
                 refine pure_ (i := 0) (N := some 52) (v := ?_) (a' := ?_) #[true, false, false, false, false, false, false, false, false, false, false, false, false, false, false] rfl rfl (any_of HT_.out (by kernel_rfl)) (fun _ _ _ h => h) (Or.inl ⟨by rfl, ?_⟩) ?_ ?_
                 rotate_left
                 ·intro w'
                  go_simp
                  with_reducible rfl
                 rotate_left
                 ·simp only [Act.put, List.setIfInBounds_toArray, List.set_cons_zero, List.set_cons_succ, i64_w, i32_w]
                  rfl
                 refine pure_ (i := 1) (N := some 53) (v := ?_) (a' := ?_) #[true, true, false, false, false, false, false, false, false, false, false, false, false, false, false] rfl rfl (any_of HT_.out (by kernel_rfl)) (fun _ _ _ h => h) (Or.inl ⟨by rfl, ?_⟩) ?_ ?_
                 rotate_left
                 ·intro w'
                  go_simp
                  with_reducible rfl
                 rotate_left
                 ·simp only [Act.put, List.setIfInBounds_toArray, List.set_cons_zero, List.set_cons_succ, i64_w, i32_w]
                  rfl
                 refine pure_ (i := 2) (N := some 54) (v := ?_) (a' := ?_) #[true, true, true, false, false, false, false, false, false, false, false, false, false, false, false] rfl rfl (any_of HT_.out (by kernel_rfl)) (fun _ _ _ h => h) (Or.inl ⟨by rfl, ?_⟩) ?_ ?_
                 rotate_left
                 ·intro w'
                  go_simp
                  with_reducible rfl
                 rotate_left
                 ·simp only [Act.put, List.setIfInBounds_toArray, List.set_cons_zero, List.set_cons_succ, i64_w, i32_w]
                  rfl
                 refine pure_ (i := 3) (N := some 55) (v := ?_) (a' := ?_) #[true, true, true, true, false, false, false, false, false, false, false, false, false, false, false] rfl rfl (any_of HT_.out (by kernel_rfl)) (fun _ _ _ h => h) (Or.inl ⟨by rfl, ?_⟩) ?_ ?_
                 rotate_left
                 ·intro w'
                  go_simp
                  with_reducible rfl
                 rotate_left
                 ·simp only [Act.put, List.setIfInBounds_toArray, List.set_cons_zero, List.set_cons_succ, i64_w, i32_w]
                  rfl
                 refine pure_ (i := 5) (N := some 57) (v := ?_) (a' := ?_) #[true, true, true, true, false, true, false, false, false, false, false, false, false, false, false] rfl rfl (any_of HT_.out (by kernel_rfl)) (fun _ _ _ h => h) (Or.inl ⟨by rfl, ?_⟩) ?_ ?_
                 rotate_left
                 ·intro w'
                  go_simp
                  with_reducible rfl
                 rotate_left
                 ·simp only [Act.put, List.setIfInBounds_toArray, List.set_cons_zero, List.set_cons_succ, i64_w, i32_w]
                  rfl
                 refine pure_ (i := 6) (N := some 58) (v := ?_) (a' := ?_) #[true, true, true, true, false, true, true, false, false, false, false, false, false, false, false] rfl rfl (any_of HT_.out (by kernel_rfl)) (fun _ _ _ h => h) (Or.inl ⟨by rfl, ?_⟩) ?_ ?_
                 rotate_left
                 ·intro w'
                  go_simp
                  with_reducible rfl
                 rotate_left
                 ·simp only [Act.put, List.setIfInBounds_toArray, List.set_cons_zero, List.set_cons_succ, i64_w, i32_w]
                  rfl
                 refine pure_ (i := 7) (N := some 59) (v := ?_) (a' := ?_) #[true, true, true, true, false, true, true, true, false, false, false, false, false, false, false] rfl rfl (any_of HT_.out (by kernel_rfl)) (fun _ _ _ h => h) (Or.inl ⟨by rfl, ?_⟩) ?_ ?_
                 rotate_left
                 ·intro w'
                  go_simp
                  with_reducible rfl
                 rotate_left
                 ·simp only [Act.put, List.setIfInBounds_toArray, List.set_cons_zero, List.set_cons_succ, i64_w, i32_w]
                  rfl
                 refine take_ (i := 4) (N := some 56) (v := ?_) (a' := ?_) #[true, true, true, true, true, true, true, true, false, false, false, false, false, false, false] rfl rfl (take_ofW HT_.out HW_.out (by kernel_rfl)) (fun _ _ _ h => h) (Or.inl ⟨by rfl, ?_⟩) hHeld ?_ ?_
                 rotate_left
                 ·rintro w' ⟨s0, s1, s2, s3⟩
                  go_simp
                  with_reducible rfl
                 rotate_left
                 ·simp only [Act.put, List.setIfInBounds_toArray, List.set_cons_zero, List.set_cons_succ, i64_w, i32_w]
                  rfl
                 refine take_ (i := 8) (N := some 60) (v := ?_) (a' := ?_) #[true, true, true, true, true, true, true, true, true, false, false, false, false, false, false] rfl rfl (take_ofW HT_.out HW_.out (by kernel_rfl)) (fun _ _ _ h => h) (Or.inl ⟨by rfl, ?_⟩) hHeld ?_ ?_
                 rotate_left
                 ·rintro w' ⟨s0, s1, s2, s3⟩
                  go_simp
                  with_reducible rfl
                 rotate_left
                 ·simp only [Act.put, List.setIfInBounds_toArray, List.set_cons_zero, List.set_cons_succ, i64_w, i32_w]
                  rfl
                 refine one_ (i := 9) (N := some 61) #[true, true, true, true, true, true, true, true, true, true, false, false, false, false, false] rfl rfl (one_of HT_.out (by kernel_rfl)) (by decide) (fun K hK => ?_)
                 refine goes_ Tryd.func12 (by kernel_rfl) rfl #[.slice A0 l0.length c0, .agg #[.bool ((rd_T25 l1 x10_3).f0), .slice A383_1 ((rd_T25 l1 x10_3).f1).length c383_1], .agg #[.bool ((rd_T25 l1 x8_2).f0), .slice A384_1 ((rd_T25 l1 x8_2).f1).length c384_1]] (by rfl) rfl rfl mA ?_
                 with_reducible refine (lit_Compare.calls (hG := gK) k3 _ _ l0 ((rd_T25 l1 x10_3).f0) _ _ ((rd_T25 l1 x10_3).f1) ((rd_T25 l1 x8_2).f0) _ _ ((rd_T25 l1 x8_2).f1) t385 t386 _ ?side1 ?side2 ?side3 ?side4 ?side5 ?side6 A21.out).mono ?_
                 (case side1 => exact cK (Kd.C_below HR0.out HB.out))
                 (case side2 => exact HC0.out)
                 (case side3 => exact cK (Kd.C_below HR383_1.out HB.out))
                 (case side4 => exact HC383_1.out)
                 (case side5 => exact cK (Kd.C_below HR384_1.out HB.out))
                 (case side6 => exact HC384_1.out)
                 rintro e w24 ⟨rfl, hb⟩
                 refine ⟨_, rfl, ?_⟩
                 have n0_ := Aside0.mk (Kd.R_below (rK HO_5) hb)
                 have n1_ := Aside0.mk (below_step bB hb)
                 clear HO_5 HB
                 have HO_5 := n0_
                 have HB := n1_
                 clear n0_ n1_
                 (try clear hb)
                 (try clear hb2)
                 (try clear hk)
                 (try clear hi)
                 refine hK.out _ _ ⟨((HB.out.cell (World.block_lt_of_cell? w _ hw383_0)).trans hw383_0), ((HB.out.cell (World.block_lt_of_cell? w _ hw383_1)).trans hw383_1), ((HB.out.cell (World.block_lt_of_cell? w _ hw384_0)).trans hw384_0), ((HB.out.cell (World.block_lt_of_cell? w _ hw384_1)).trans hw384_1)⟩ (fun hHeld => ?_)
                 clear hK K
                 refine norm_ (a' := ?_) ?_ ?_
                 rotate_left
                 ·show Act.put _ (some 61) _ = _
                  simp only [Act.put, List.setIfInBounds_toArray, List.set_cons_zero, List.set_cons_succ, i64_w, i32_w]
                  rfl
                 refine pure_ (i := 10) (N := some 51) (v := ?_) (a' := ?_) #[true, true, true, true, true, true, true, true, true, true, true, false, false, false, false] rfl rfl (any_of HT_.out (by kernel_rfl)) (fun _ _ _ h => h) (Or.inl ⟨by rfl, ?_⟩) ?_ ?_
                 rotate_left
                 ·intro w'
                  go_simp
                  with_reducible rfl
                 rotate_left
                 ·simp only [Act.put, List.setIfInBounds_toArray, List.set_cons_zero, List.set_cons_succ, i64_w, i32_w]
                  rfl
                 refine pure_ (i := 11) (N := some 62) (v := ?_) (a' := ?_) #[true, true, true, true, true, true, true, true, true, true, true, true, false, false, false] rfl rfl (any_of HT_.out (by kernel_rfl)) (fun _ _ _ h => h) (Or.inl ⟨by rfl, ?_⟩) ?_ ?_
                 rotate_left
                 ·intro w'
                  go_simp
                  with_reducible rfl
                 rotate_left
                 ·simp only [Act.put, List.setIfInBounds_toArray, List.set_cons_zero, List.set_cons_succ, i64_w, i32_w]
                  rfl
                 refine pure_ (i := 12) (N := some 63) (v := ?_) (a' := ?_) #[true, true, true, true, true, true, true, true, true, true, true, true, true, false, false] rfl rfl (any_of HT_.out (by kernel_rfl)) (fun _ _ _ h => h) (Or.inl ⟨by rfl, ?_⟩) ?_ ?_
                 rotate_left
                 ·intro w'
                  go_simp
                  with_reducible rfl
                 rotate_left
                 ·simp only [Act.put, List.setIfInBounds_toArray, List.set_cons_zero, List.set_cons_succ, i64_w, i32_w]
                  rfl
                 refine pure_ (i := 13) (N := some 11) (v := ?_) (a' := ?_) #[true, true, true, true, true, true, true, true, true, true, true, true, true, true, false] rfl rfl (any_of HT_.out (by kernel_rfl)) (fun _ _ _ h => h) (Or.inl ⟨by rfl, ?_⟩) ?_ ?_
                 rotate_left
                 ·intro w'
                  go_simp
                  with_reducible rfl
                 rotate_left
                 ·simp only [Act.put, List.setIfInBounds_toArray, List.set_cons_zero, List.set_cons_succ, i64_w, i32_w]
                  rfl
                 refine pure_ (i := 14) (N := some 12) (v := ?_) (a' := ?_) #[true, true, true, true, true, true, true, true, true, true, true, true, true, true, true] rfl rfl (any_of HT_.out (by kernel_rfl)) (fun _ _ _ h => h) (Or.inl ⟨by rfl, ?_⟩) ?_ ?_
                 rotate_left
                 ·intro w'
                  go_simp
                  with_reducible rfl
                 rotate_left
                 ·simp only [Act.put, List.setIfInBounds_toArray, List.set_cons_zero, List.set_cons_succ, i64_w, i32_w]
                  rfl
                 refine done_ (done_of HT_.out (by kernel_rfl)) ?_
                 try go_wp2
                 go_roundg k3
                 case measure => have := HJ9.out; have := HK2.out; have := HK3.out; omega
                 case rel => exact ⟨(true), (wrap64 (x10_3 + 1)), sK, sK, H', ⟨by have := HJ9.out; have := HK2.out; have := HK3.out; omega⟩, ⟨by (with_reducible repeat (first | apply Kd.R_alloc | apply Kd.R_drewN | apply Kd.R_drew)); exact HO_5.out⟩, ⟨bB⟩⟩
                ·replace c22 := Bool.eq_false_iff.mpr c22
                 subst c22
                 have H1 : ((quaerelaw0_Num.f t386).bind fun t387 => (if t387 = 0 then (quaerelaw7_LitTopThere.l1 k3 l0 l1 t378 x7_2 x8_2 (t385 == 2) (wrap64 (x10_3 + 1))) else (quaerelaw7_LitTopThere.l1 k3 l0 l1 t378 x7_2 x8_2 false (wrap64 (x10_3 + 1))))) = some r := by rw [if_neg (show ¬ (false = true) by decide)] at H; exact H
                 clear H
                 have H := H1
                 clear H1
                 replace H := Option.bind_eq_some_iff.mp H
                 obtain ⟨t387, A250, H⟩ := H
                 replace H : (if t387 = 0 then (quaerelaw7_LitTopThere.l1 k3 l0 l1 t378 x7_2 x8_2 (t385 == 2) (wrap64 (x10_3 + 1))) else (quaerelaw7_LitTopThere.l1 k3 l0 l1 t378 x7_2 x8_2 false (wrap64 (x10_3 + 1)))) = some r := H
                 have A25 := Aside0.mk A250
                 clear A250
                 by_cases c26 : t387 = 0
                 ·rw [if_pos c26] at H
                  have c26b0 : (t387 == 0) = true := beq_iff_eq.mpr c26
                  have c26b1 : (t387 != 0) = false := bne_eq_false_iff_eq.mpr c26
                  clear c26
                  have H' := Aside0.mk H
                  clear H
                  try go_wp2
                  have n0_ := Aside0.mk (Kd.R_drew HO_5.out)
                  have n1_ := Aside0.mk (below_drew1 HB.out)
                  clear HO_5 HB
                  have HO_5 := n0_
                  have HB := n1_
                  clear n0_ n1_
                  have p383 : 0 ≤ (x10_3 : Int) := of_decide_eq_true aK
                  have q383 : x10_3 < (l1.length : Int) := of_decide_eq_true aK
                  obtain ⟨ad383, A383_1, c383_1, e383, hx383_0, hx383_1, hl383_1, hi383_1⟩ := at_T25 HR1.out x10_3 p383 q383
                  have hw383_1 := hx383_1
                  have hw383_0 := hx383_0
                  cases e383
                  replace hx383_0 := (HB.out.cell (World.block_lt_of_cell? w _ hx383_0)).trans hx383_0
                  replace hx383_1 := (HB.out.cell (World.block_lt_of_cell? w _ hx383_1)).trans hx383_1
                  have HR383_1 := Aside0.mk hi383_1
                  have HC383_1 := Aside0.mk hl383_1
                  clear hi383_1 hl383_1
                  replace p383 := eq_true p383
                  replace q383 := eq_true q383
                  have p384 : 0 ≤ (x8_2 : Int) := of_decide_eq_true aK
                  have q384 : x8_2 < (l1.length : Int) := of_decide_eq_true aK
                  obtain ⟨ad384, A384_1, c384_1, e384, hx384_0, hx384_1, hl384_1, hi384_1⟩ := at_T25 HR1.out x8_2 p384 q384
                  have hw384_1 := hx384_1
                  have hw384_0 := hx384_0
                  obtain rfl : ad383 = ad384 := (by injection e384)
                  replace hx384_0 := (HB.out.cell (World.block_lt_of_cell? w _ hx384_0)).trans hx384_0
                  replace hx384_1 := (HB.out.cell (World.block_lt_of_cell? w _ hx384_1)).trans hx384_1
                  have HR384_1 := Aside0.mk hi384_1
                  have HC384_1 := Aside0.mk hl384_1
                  clear hi384_1 hl384_1
                  replace p384 := eq_true p384
                  replace q384 := eq_true q384
                  refine start_ (n := 15) (S := fun w' => w'.cell? (ad383.add ((x10_3).toNat * 2)) = some (.bool ((rd_T25 l1 x10_3).f0)) ∧ w'.cell? ⟨(ad383.add ((x10_3).toNat * 2)).block, (ad383.add ((x10_3).toNat * 2)).off + 1, none⟩ = some (.slice A383_1 ((rd_T25 l1 x10_3).f1).length c383_1) ∧ w'.cell? (ad383.add ((x8_2).toNat * 2)) = some (.bool ((rd_T25 l1 x8_2).f0)) ∧ w'.cell? ⟨(ad383.add ((x8_2).toNat * 2)).block, (ad383.add ((x8_2).toNat * 2)).off + 1, none⟩ = some (.slice A384_1 ((rd_T25 l1 x8_2).f1).length c384_1)) (ds := []) #[false, false, false, false, false, false, false, false, false, false, false, false, false, false, false] (by kernel_rfl) rfl rfl ⟨((HB.out.cell (World.block_lt_of_cell? w _ hw383_0)).trans hw383_0), ((HB.out.cell (World.block_lt_of_cell? w _ hw383_1)).trans hw383_1), ((HB.out.cell (World.block_lt_of_cell? w _ hw384_0)).trans hw384_0), ((HB.out.cell (World.block_lt_of_cell? w _ hw384_1)).trans hw384_1)⟩ (fun hHeld => ?_); refine with_tabW quaerelaw7_LitTopThere.tab18 quaerelaw7_LitTopThere.bits18 (fun HT_ HW_ => ?_)
                  generalize wr.drew = w27 at HO_5 HB HR383_1 HR384_1 hx383_0 hx383_1 hx384_0 hx384_1 hHeld ⊢
                  refine pure_ (i := 0) (N := some 52) (v := ?_) (a' := ?_) #[true, false, false, false, false, false, false, false, false, false, false, false, false, false, false] rfl rfl (any_of HT_.out (by kernel_rfl)) (fun _ _ _ h => h) (Or.inl ⟨by rfl, ?_⟩) ?_ ?_
                  rotate_left
                  ·intro w'
                   go_simp
                   with_reducible rfl
                  rotate_left
                  ·simp only [Act.put, List.setIfInBounds_toArray, List.set_cons_zero, List.set_cons_succ, i64_w, i32_w]
                   rfl
                  refine pure_ (i := 1) (N := some 53) (v := ?_) (a' := ?_) #[true, true, false, false, false, false, false, false, false, false, false, false, false, false, false] rfl rfl (any_of HT_.out (by kernel_rfl)) (fun _ _ _ h => h) (Or.inl ⟨by rfl, ?_⟩) ?_ ?_
                  rotate_left
                  ·intro w'
                   go_simp
                   with_reducible rfl
                  rotate_left
                  ·simp only [Act.put, List.setIfInBounds_toArray, List.set_cons_zero, List.set_cons_succ, i64_w, i32_w]
                   rfl
                  refine pure_ (i := 2) (N := some 54) (v := ?_) (a' := ?_) #[true, true, true, false, false, false, false, false, false, false, false, false, false, false, false] rfl rfl (any_of HT_.out (by kernel_rfl)) (fun _ _ _ h => h) (Or.inl ⟨by rfl, ?_⟩) ?_ ?_
                  rotate_left
                  ·intro w'
                   go_simp
                   with_reducible rfl
                  rotate_left
                  ·simp only [Act.put, List.setIfInBounds_toArray, List.set_cons_zero, List.set_cons_succ, i64_w, i32_w]
                   rfl
                  refine pure_ (i := 3) (N := some 55) (v := ?_) (a' := ?_) #[true, true, true, true, false, false, false, false, false, false, false, false, false, false, false] rfl rfl (any_of HT_.out (by kernel_rfl)) (fun _ _ _ h => h) (Or.inl ⟨by rfl, ?_⟩) ?_ ?_
                  rotate_left
                  ·intro w'
                   go_simp
                   with_reducible rfl
                  rotate_left
                  ·simp only [Act.put, List.setIfInBounds_toArray, List.set_cons_zero, List.set_cons_succ, i64_w, i32_w]
                   rfl
                  refine pure_ (i := 5) (N := some 57) (v := ?_) (a' := ?_) #[true, true, true, true, false, true, false, false, false, false, false, false, false, false, false] rfl rfl (any_of HT_.out (by kernel_rfl)) (fun _ _ _ h => h) (Or.inl ⟨by rfl, ?_⟩) ?_ ?_
                  rotate_left
                  ·intro w'
                   go_simp
                   with_reducible rfl
                  rotate_left
                  ·simp only [Act.put, List.setIfInBounds_toArray, List.set_cons_zero, List.set_cons_succ, i64_w, i32_w]
                   rfl
                  refine pure_ (i := 6) (N := some 58) (v := ?_) (a' := ?_) #[true, true, true, true, false, true, true, false, false, false, false, false, false, false, false] rfl rfl (any_of HT_.out (by kernel_rfl)) (fun _ _ _ h => h) (Or.inl ⟨by rfl, ?_⟩) ?_ ?_
                  rotate_left
                  ·intro w'
                   go_simp
                   with_reducible rfl
                  rotate_left
                  ·simp only [Act.put, List.setIfInBounds_toArray, List.set_cons_zero, List.set_cons_succ, i64_w, i32_w]
                   rfl
                  refine pure_ (i := 7) (N := some 59) (v := ?_) (a' := ?_) #[true, true, true, true, false, true, true, true, false, false, false, false, false, false, false] rfl rfl (any_of HT_.out (by kernel_rfl)) (fun _ _ _ h => h) (Or.inl ⟨by rfl, ?_⟩) ?_ ?_
                  rotate_left
                  ·intro w'
                   go_simp
                   with_reducible rfl
                  rotate_left
                  ·simp only [Act.put, List.setIfInBounds_toArray, List.set_cons_zero, List.set_cons_succ, i64_w, i32_w]
                   rfl
                  refine take_ (i := 4) (N := some 56) (v := ?_) (a' := ?_) #[true, true, true, true, true, true, true, true, false, false, false, false, false, false, false] rfl rfl (take_ofW HT_.out HW_.out (by kernel_rfl)) (fun _ _ _ h => h) (Or.inl ⟨by rfl, ?_⟩) hHeld ?_ ?_
                  rotate_left
                  ·rintro w' ⟨s0, s1, s2, s3⟩
                   go_simp
                   with_reducible rfl
                  rotate_left
                  ·simp only [Act.put, List.setIfInBounds_toArray, List.set_cons_zero, List.set_cons_succ, i64_w, i32_w]
                   rfl
                  refine take_ (i := 8) (N := some 60) (v := ?_) (a' := ?_) #[true, true, true, true, true, true, true, true, true, false, false, false, false, false, false] rfl rfl (take_ofW HT_.out HW_.out (by kernel_rfl)) (fun _ _ _ h => h) (Or.inl ⟨by rfl, ?_⟩) hHeld ?_ ?_
                  rotate_left
                  ·rintro w' ⟨s0, s1, s2, s3⟩
                   go_simp
                   with_reducible rfl
                  rotate_left
                  ·simp only [Act.put, List.setIfInBounds_toArray, List.set_cons_zero, List.set_cons_succ, i64_w, i32_w]
                   rfl
                  refine one_ (i := 9) (N := some 61) #[true, true, true, true, true, true, true, true, true, true, false, false, false, false, false] rfl rfl (one_of HT_.out (by kernel_rfl)) (by decide) (fun K hK => ?_)
                  refine goes_ Tryd.func12 (by kernel_rfl) rfl #[.slice A0 l0.length c0, .agg #[.bool ((rd_T25 l1 x10_3).f0), .slice A383_1 ((rd_T25 l1 x10_3).f1).length c383_1], .agg #[.bool ((rd_T25 l1 x8_2).f0), .slice A384_1 ((rd_T25 l1 x8_2).f1).length c384_1]] (by rfl) rfl rfl mA ?_
                  with_reducible refine (lit_Compare.calls (hG := gK) k3 _ _ l0 ((rd_T25 l1 x10_3).f0) _ _ ((rd_T25 l1 x10_3).f1) ((rd_T25 l1 x8_2).f0) _ _ ((rd_T25 l1 x8_2).f1) t385 t386 _ ?side1 ?side2 ?side3 ?side4 ?side5 ?side6 A21.out).mono ?_
                  (case side1 => exact cK (Kd.C_below HR0.out HB.out))
                  (case side2 => exact HC0.out)
                  (case side3 => exact cK (Kd.C_below HR383_1.out HB.out))
                  (case side4 => exact HC383_1.out)
                  (case side5 => exact cK (Kd.C_below HR384_1.out HB.out))
                  (case side6 => exact HC384_1.out)
                  rintro e w28 ⟨rfl, hb⟩
                  refine ⟨_, rfl, ?_⟩
                  have n0_ := Aside0.mk (Kd.R_below (rK HO_5) hb)
                  have n1_ := Aside0.mk (below_step bB hb)
                  clear HO_5 HB
                  have HO_5 := n0_
                  have HB := n1_
                  clear n0_ n1_
                  (try clear hb)
                  (try clear hb2)
                  (try clear hk)
                  (try clear hi)
                  refine hK.out _ _ ⟨((HB.out.cell (World.block_lt_of_cell? w _ hw383_0)).trans hw383_0), ((HB.out.cell (World.block_lt_of_cell? w _ hw383_1)).trans hw383_1), ((HB.out.cell (World.block_lt_of_cell? w _ hw384_0)).trans hw384_0), ((HB.out.cell (World.block_lt_of_cell? w _ hw384_1)).trans hw384_1)⟩ (fun hHeld => ?_)
                  clear hK K
                  refine norm_ (a' := ?_) ?_ ?_
                  rotate_left
                  ·show Act.put _ (some 61) _ = _
                   simp only [Act.put, List.setIfInBounds_toArray, List.set_cons_zero, List.set_cons_succ, i64_w, i32_w]
                   rfl
                  refine pure_ (i := 10) (N := some 51) (v := ?_) (a' := ?_) #[true, true, true, true, true, true, true, true, true, true, true, false, false, false, false] rfl rfl (any_of HT_.out (by kernel_rfl)) (fun _ _ _ h => h) (Or.inl ⟨by rfl, ?_⟩) ?_ ?_
                  rotate_left
                  ·intro w'
                   go_simp
                   with_reducible rfl
                  rotate_left
                  ·simp only [Act.put, List.setIfInBounds_toArray, List.set_cons_zero, List.set_cons_succ, i64_w, i32_w]
                   rfl
                  refine pure_ (i := 11) (N := some 62) (v := ?_) (a' := ?_) #[true, true, true, true, true, true, true, true, true, true, true, true, false, false, false] rfl rfl (any_of HT_.out (by kernel_rfl)) (fun _ _ _ h => h) (Or.inl ⟨by rfl, ?_⟩) ?_ ?_
                  rotate_left
                  ·intro w'
                   go_simp
                   with_reducible rfl
                  rotate_left
                  ·simp only [Act.put, List.setIfInBounds_toArray, List.set_cons_zero, List.set_cons_succ, i64_w, i32_w]
                   rfl
                  refine pure_ (i := 12) (N := some 63) (v := ?_) (a' := ?_) #[true, true, true, true, true, true, true, true, true, true, true, true, true, false, false] rfl rfl (any_of HT_.out (by kernel_rfl)) (fun _ _ _ h => h) (Or.inl ⟨by rfl, ?_⟩) ?_ ?_
                  rotate_left
                  ·intro w'
                   go_simp
                   with_reducible rfl
                  rotate_left
                  ·simp only [Act.put, List.setIfInBounds_toArray, List.set_cons_zero, List.set_cons_succ, i64_w, i32_w]
                   rfl
                  refine pure_ (i := 13) (N := some 11) (v := ?_) (a' := ?_) #[true, true, true, true, true, true, true, true, true, true, true, true, true, true, false] rfl rfl (any_of HT_.out (by kernel_rfl)) (fun _ _ _ h => h) (Or.inl ⟨by rfl, ?_⟩) ?_ ?_
                  rotate_left
                  ·intro w'
                   go_simp
                   with_reducible rfl
                  rotate_left
                  ·simp only [Act.put, List.setIfInBounds_toArray, List.set_cons_zero, List.set_cons_succ, i64_w, i32_w]
                   rfl
                  refine pure_ (i := 14) (N := some 12) (v := ?_) (a' := ?_) #[true, true, true, true, true, true, true, true, true, true, true, true, true, true, true] rfl rfl (any_of HT_.out (by kernel_rfl)) (fun _ _ _ h => h) (Or.inl ⟨by rfl, ?_⟩) ?_ ?_
                  rotate_left
                  ·intro w'
                   go_simp
                   with_reducible rfl
                  rotate_left
                  ·simp only [Act.put, List.setIfInBounds_toArray, List.set_cons_zero, List.set_cons_succ, i64_w, i32_w]
                   rfl
                  refine done_ (done_of HT_.out (by kernel_rfl)) ?_
                  try go_wp2_with (first | (go_at_call 16; (with_reducible refine (quaerelaw0_Num.calls t386 t387 _ A25.out).mono ?_); rintro e w' ⟨rfl, ⟨nd, rfl⟩⟩))
                  go_roundg k3
                  case measure => have := HJ9.out; have := HK2.out; have := HK3.out; omega
                  case rel => exact ⟨((t385 == 2)), (wrap64 (x10_3 + 1)), sK, sK, H', ⟨by have := HJ9.out; have := HK2.out; have := HK3.out; omega⟩, ⟨by (with_reducible repeat (first | apply Kd.R_alloc | apply Kd.R_drewN | apply Kd.R_drew)); exact HO_5.out⟩, ⟨bB⟩⟩
                 ·rw [if_neg c26] at H
                  have c26b0 : (t387 == 0) = false := beq_eq_false_iff_ne.mpr c26
                  have c26b1 : (t387 != 0) = true := bne_iff_ne.mpr c26
                  have H' := Aside0.mk H
                  clear H
                  try go_wp2
                  have n0_ := Aside0.mk (Kd.R_drew HO_5.out)
                  have n1_ := Aside0.mk (below_drew1 HB.out)
                  clear HO_5 HB
                  have HO_5 := n0_
                  have HB := n1_
                  clear n0_ n1_
                  have p383 : 0 ≤ (x10_3 : Int) := of_decide_eq_true aK
                  have q383 : x10_3 < (l1.length : Int) := of_decide_eq_true aK
                  obtain ⟨ad383, A383_1, c383_1, e383, hx383_0, hx383_1, hl383_1, hi383_1⟩ := at_T25 HR1.out x10_3 p383 q383
                  have hw383_1 := hx383_1
                  have hw383_0 := hx383_0
                  cases e383
                  replace hx383_0 := (HB.out.cell (World.block_lt_of_cell? w _ hx383_0)).trans hx383_0
                  replace hx383_1 := (HB.out.cell (World.block_lt_of_cell? w _ hx383_1)).trans hx383_1
                  have HR383_1 := Aside0.mk hi383_1
                  have HC383_1 := Aside0.mk hl383_1
                  clear hi383_1 hl383_1
                  replace p383 := eq_true p383
                  replace q383 := eq_true q383
                  have p384 : 0 ≤ (x8_2 : Int) := of_decide_eq_true aK
                  have q384 : x8_2 < (l1.length : Int) := of_decide_eq_true aK
                  obtain ⟨ad384, A384_1, c384_1, e384, hx384_0, hx384_1, hl384_1, hi384_1⟩ := at_T25 HR1.out x8_2 p384 q384
                  have hw384_1 := hx384_1
                  have hw384_0 := hx384_0
                  obtain rfl : ad383 = ad384 := (by injection e384)
                  replace hx384_0 := (HB.out.cell (World.block_lt_of_cell? w _ hx384_0)).trans hx384_0
                  replace hx384_1 := (HB.out.cell (World.block_lt_of_cell? w _ hx384_1)).trans hx384_1
                  have HR384_1 := Aside0.mk hi384_1
                  have HC384_1 := Aside0.mk hl384_1
                  clear hi384_1 hl384_1
                  replace p384 := eq_true p384
                  replace q384 := eq_true q384
                  refine start_ (n := 15) (S := fun w' => w'.cell? (ad383.add ((x10_3).toNat * 2)) = some (.bool ((rd_T25 l1 x10_3).f0)) ∧ w'.cell? ⟨(ad383.add ((x10_3).toNat * 2)).block, (ad383.add ((x10_3).toNat * 2)).off + 1, none⟩ = some (.slice A383_1 ((rd_T25 l1 x10_3).f1).length c383_1) ∧ w'.cell? (ad383.add ((x8_2).toNat * 2)) = some (.bool ((rd_T25 l1 x8_2).f0)) ∧ w'.cell? ⟨(ad383.add ((x8_2).toNat * 2)).block, (ad383.add ((x8_2).toNat * 2)).off + 1, none⟩ = some (.slice A384_1 ((rd_T25 l1 x8_2).f1).length c384_1)) (ds := []) #[false, false, false, false, false, false, false, false, false, false, false, false, false, false, false] (by kernel_rfl) rfl rfl ⟨((HB.out.cell (World.block_lt_of_cell? w _ hw383_0)).trans hw383_0), ((HB.out.cell (World.block_lt_of_cell? w _ hw383_1)).trans hw383_1), ((HB.out.cell (World.block_lt_of_cell? w _ hw384_0)).trans hw384_0), ((HB.out.cell (World.block_lt_of_cell? w _ hw384_1)).trans hw384_1)⟩ (fun hHeld => ?_); refine with_tabW quaerelaw7_LitTopThere.tab18 quaerelaw7_LitTopThere.bits18 (fun HT_ HW_ => ?_)
                  generalize wr.drew = w29 at HO_5 HB HR383_1 HR384_1 hx383_0 hx383_1 hx384_0 hx384_1 hHeld ⊢
                  refine pure_ (i := 0) (N := some 52) (v := ?_) (a' := ?_) #[true, false, false, false, false, false, false, false, false, false, false, false, false, false, false] rfl rfl (any_of HT_.out (by kernel_rfl)) (fun _ _ _ h => h) (Or.inl ⟨by rfl, ?_⟩) ?_ ?_
                  rotate_left
                  ·intro w'
                   go_simp
                   with_reducible rfl
                  rotate_left
                  ·simp only [Act.put, List.setIfInBounds_toArray, List.set_cons_zero, List.set_cons_succ, i64_w, i32_w]
                   rfl
                  refine pure_ (i := 1) (N := some 53) (v := ?_) (a' := ?_) #[true, true, false, false, false, false, false, false, false, false, false, false, false, false, false] rfl rfl (any_of HT_.out (by kernel_rfl)) (fun _ _ _ h => h) (Or.inl ⟨by rfl, ?_⟩) ?_ ?_
                  rotate_left
                  ·intro w'
                   go_simp
                   with_reducible rfl
                  rotate_left
                  ·simp only [Act.put, List.setIfInBounds_toArray, List.set_cons_zero, List.set_cons_succ, i64_w, i32_w]
                   rfl
                  refine pure_ (i := 2) (N := some 54) (v := ?_) (a' := ?_) #[true, true, true, false, false, false, false, false, false, false, false, false, false, false, false] rfl rfl (any_of HT_.out (by kernel_rfl)) (fun _ _ _ h => h) (Or.inl ⟨by rfl, ?_⟩) ?_ ?_
                  rotate_left
                  ·intro w'
                   go_simp
                   with_reducible rfl
                  rotate_left
                  ·simp only [Act.put, List.setIfInBounds_toArray, List.set_cons_zero, List.set_cons_succ, i64_w, i32_w]
                   rfl
                  refine pure_ (i := 3) (N := some 55) (v := ?_) (a' := ?_) #[true, true, true, true, false, false, false, false, false, false, false, false, false, false, false] rfl rfl (any_of HT_.out (by kernel_rfl)) (fun _ _ _ h => h) (Or.inl ⟨by rfl, ?_⟩) ?_ ?_
                  rotate_left
                  ·intro w'
                   go_simp
                   with_reducible rfl
                  rotate_left
                  ·simp only [Act.put, List.setIfInBounds_toArray, List.set_cons_zero, List.set_cons_succ, i64_w, i32_w]
                   rfl
                  refine pure_ (i := 5) (N := some 57) (v := ?_) (a' := ?_) #[true, true, true, true, false, true, false, false, false, false, false, false, false, false, false] rfl rfl (any_of HT_.out (by kernel_rfl)) (fun _ _ _ h => h) (Or.inl ⟨by rfl, ?_⟩) ?_ ?_
                  rotate_left
                  ·intro w'
                   go_simp
                   with_reducible rfl
                  rotate_left
                  ·simp only [Act.put, List.setIfInBounds_toArray, List.set_cons_zero, List.set_cons_succ, i64_w, i32_w]
                   rfl
                  refine pure_ (i := 6) (N := some 58) (v := ?_) (a' := ?_) #[true, true, true, true, false, true, true, false, false, false, false, false, false, false, false] rfl rfl (any_of HT_.out (by kernel_rfl)) (fun _ _ _ h => h) (Or.inl ⟨by rfl, ?_⟩) ?_ ?_
                  rotate_left
                  ·intro w'
                   go_simp
                   with_reducible rfl
                  rotate_left
                  ·simp only [Act.put, List.setIfInBounds_toArray, List.set_cons_zero, List.set_cons_succ, i64_w, i32_w]
                   rfl
                  refine pure_ (i := 7) (N := some 59) (v := ?_) (a' := ?_) #[true, true, true, true, false, true, true, true, false, false, false, false, false, false, false] rfl rfl (any_of HT_.out (by kernel_rfl)) (fun _ _ _ h => h) (Or.inl ⟨by rfl, ?_⟩) ?_ ?_
                  rotate_left
                  ·intro w'
                   go_simp
                   with_reducible rfl
                  rotate_left
                  ·simp only [Act.put, List.setIfInBounds_toArray, List.set_cons_zero, List.set_cons_succ, i64_w, i32_w]
                   rfl
                  refine take_ (i := 4) (N := some 56) (v := ?_) (a' := ?_) #[true, true, true, true, true, true, true, true, false, false, false, false, false, false, false] rfl rfl (take_ofW HT_.out HW_.out (by kernel_rfl)) (fun _ _ _ h => h) (Or.inl ⟨by rfl, ?_⟩) hHeld ?_ ?_
                  rotate_left
                  ·rintro w' ⟨s0, s1, s2, s3⟩
                   go_simp
                   with_reducible rfl
                  rotate_left
                  ·simp only [Act.put, List.setIfInBounds_toArray, List.set_cons_zero, List.set_cons_succ, i64_w, i32_w]
                   rfl
                  refine take_ (i := 8) (N := some 60) (v := ?_) (a' := ?_) #[true, true, true, true, true, true, true, true, true, false, false, false, false, false, false] rfl rfl (take_ofW HT_.out HW_.out (by kernel_rfl)) (fun _ _ _ h => h) (Or.inl ⟨by rfl, ?_⟩) hHeld ?_ ?_
                  rotate_left
                  ·rintro w' ⟨s0, s1, s2, s3⟩
                   go_simp
                   with_reducible rfl
                  rotate_left
                  ·simp only [Act.put, List.setIfInBounds_toArray, List.set_cons_zero, List.set_cons_succ, i64_w, i32_w]
                   rfl
                  refine one_ (i := 9) (N := some 61) #[true, true, true, true, true, true, true, true, true, true, false, false, false, false, false] rfl rfl (one_of HT_.out (by kernel_rfl)) (by decide) (fun K hK => ?_)
                  refine goes_ Tryd.func12 (by kernel_rfl) rfl #[.slice A0 l0.length c0, .agg #[.bool ((rd_T25 l1 x10_3).f0), .slice A383_1 ((rd_T25 l1 x10_3).f1).length c383_1], .agg #[.bool ((rd_T25 l1 x8_2).f0), .slice A384_1 ((rd_T25 l1 x8_2).f1).length c384_1]] (by rfl) rfl rfl mA ?_
                  with_reducible refine (lit_Compare.calls (hG := gK) k3 _ _ l0 ((rd_T25 l1 x10_3).f0) _ _ ((rd_T25 l1 x10_3).f1) ((rd_T25 l1 x8_2).f0) _ _ ((rd_T25 l1 x8_2).f1) t385 t386 _ ?side1 ?side2 ?side3 ?side4 ?side5 ?side6 A21.out).mono ?_
                  (case side1 => exact cK (Kd.C_below HR0.out HB.out))
                  (case side2 => exact HC0.out)
                  (case side3 => exact cK (Kd.C_below HR383_1.out HB.out))
                  (case side4 => exact HC383_1.out)
                  (case side5 => exact cK (Kd.C_below HR384_1.out HB.out))
                  (case side6 => exact HC384_1.out)
                  rintro e w30 ⟨rfl, hb⟩
                  refine ⟨_, rfl, ?_⟩
                  have n0_ := Aside0.mk (Kd.R_below (rK HO_5) hb)
                  have n1_ := Aside0.mk (below_step bB hb)
                  clear HO_5 HB
                  have HO_5 := n0_
                  have HB := n1_
                  clear n0_ n1_
                  (try clear hb)
                  (try clear hb2)
                  (try clear hk)
                  (try clear hi)
                  refine hK.out _ _ ⟨((HB.out.cell (World.block_lt_of_cell? w _ hw383_0)).trans hw383_0), ((HB.out.cell (World.block_lt_of_cell? w _ hw383_1)).trans hw383_1), ((HB.out.cell (World.block_lt_of_cell? w _ hw384_0)).trans hw384_0), ((HB.out.cell (World.block_lt_of_cell? w _ hw384_1)).trans hw384_1)⟩ (fun hHeld => ?_)
                  clear hK K
                  refine norm_ (a' := ?_) ?_ ?_
                  rotate_left
                  ·show Act.put _ (some 61) _ = _
                   simp only [Act.put, List.setIfInBounds_toArray, List.set_cons_zero, List.set_cons_succ, i64_w, i32_w]
                   rfl
                  refine pure_ (i := 10) (N := some 51) (v := ?_) (a' := ?_) #[true, true, true, true, true, true, true, true, true, true, true, false, false, false, false] rfl rfl (any_of HT_.out (by kernel_rfl)) (fun _ _ _ h => h) (Or.inl ⟨by rfl, ?_⟩) ?_ ?_
                  rotate_left
                  ·intro w'
                   go_simp
                   with_reducible rfl
                  rotate_left
                  ·simp only [Act.put, List.setIfInBounds_toArray, List.set_cons_zero, List.set_cons_succ, i64_w, i32_w]
                   rfl
                  refine pure_ (i := 11) (N := some 62) (v := ?_) (a' := ?_) #[true, true, true, true, true, true, true, true, true, true, true, true, false, false, false] rfl rfl (any_of HT_.out (by kernel_rfl)) (fun _ _ _ h => h) (Or.inl ⟨by rfl, ?_⟩) ?_ ?_
                  rotate_left
                  ·intro w'
                   go_simp
                   with_reducible rfl
                  rotate_left
                  ·simp only [Act.put, List.setIfInBounds_toArray, List.set_cons_zero, List.set_cons_succ, i64_w, i32_w]
                   rfl
                  refine pure_ (i := 12) (N := some 63) (v := ?_) (a' := ?_) #[true, true, true, true, true, true, true, true, true, true, true, true, true, false, false] rfl rfl (any_of HT_.out (by kernel_rfl)) (fun _ _ _ h => h) (Or.inl ⟨by rfl, ?_⟩) ?_ ?_
                  rotate_left
                  ·intro w'
                   go_simp
                   with_reducible rfl
                  rotate_left
                  ·simp only [Act.put, List.setIfInBounds_toArray, List.set_cons_zero, List.set_cons_succ, i64_w, i32_w]
                   rfl
                  refine pure_ (i := 13) (N := some 11) (v := ?_) (a' := ?_) #[true, true, true, true, true, true, true, true, true, true, true, true, true, true, false] rfl rfl (any_of HT_.out (by kernel_rfl)) (fun _ _ _ h => h) (Or.inl ⟨by rfl, ?_⟩) ?_ ?_
                  rotate_left
                  ·intro w'
                   go_simp
                   with_reducible rfl
                  rotate_left
                  ·simp only [Act.put, List.setIfInBounds_toArray, List.set_cons_zero, List.set_cons_succ, i64_w, i32_w]
                   rfl
                  refine pure_ (i := 14) (N := some 12) (v := ?_) (a' := ?_) #[true, true, true, true, true, true, true, true, true, true, true, true, true, true, true] rfl rfl (any_of HT_.out (by kernel_rfl)) (fun _ _ _ h => h) (Or.inl ⟨by rfl, ?_⟩) ?_ ?_
                  rotate_left
                  ·intro w'
                   go_simp
                   with_reducible rfl
                  rotate_left
                  ·simp only [Act.put, List.setIfInBounds_toArray, List.set_cons_zero, List.set_cons_succ, i64_w, i32_w]
                   rfl
                  refine done_ (done_of HT_.out (by kernel_rfl)) ?_
                  try go_wp2_with (first | (go_at_call 16; (with_reducible refine (quaerelaw0_Num.calls t386 t387 _ A25.out).mono ?_); rintro e w' ⟨rfl, ⟨nd, rfl⟩⟩))
                  go_roundg k3
                  case measure => have := HJ9.out; have := HK2.out; have := HK3.out; omega
                  case rel => exact ⟨(false), (wrap64 (x10_3 + 1)), sK, sK, H', ⟨by have := HJ9.out; have := HK2.out; have := HK3.out; omega⟩, ⟨by (with_reducible repeat (first | apply Kd.R_alloc | apply Kd.R_drewN | apply Kd.R_drew)); exact HO_5.out⟩, ⟨bB⟩⟩
               ·rw [if_neg c20] at H
                exact absurd H (by simp)
              ·rw [if_neg c19] at H
               exact absurd H (by simp)
             ·rw [if_neg c18] at H
              exact absurd H (by simp)
            ·rw [if_neg c17] at H
             have c17b0 : decide (x10_3 < (l1.length : Int)) = false := decide_eq_false c17
             clear c17
             have HC31 := Aside0.mk H
             clear H
             go_upto_region 20 with (fail)
             go_cut [13] (fun v13 wc => ∃ (kq : Nat) (x13_30 : Bool), v13 = .bool x13_30 ∧ Aside0 (quaerelaw7_LitTopThere.j3 kq l0 l1 t378 x7_2 x8_2 x9_3 x13_30 = some r) ∧ Aside0 (kq ≤ k3) ∧ Aside0 (Kd.R (Kd.int .i64) 3 wc w.heap.size (fun _ => True) v380 t378) ∧ Aside0 (Below w.heap.size w wc))
             case first =>
              have H := HC31.out
              clear HC31
              by_cases c32 : x7_2 < (t378.length : Int)
              ·rw [if_pos c32] at H
               have c32b0 : decide (x7_2 < (t378.length : Int)) = true := decide_eq_true c32
               clear c32
               (first | rw [c32b0] | (simp only [i64_w, i32_w]; rw [c32b0]) | skip)
               by_cases c33 : 0 ≤ x7_2
               ·rw [if_pos c33] at H
                have c33b0 : decide (0 ≤ x7_2) = true := decide_eq_true c33
                clear c33
                have H' := Aside0.mk H
                clear H
                obtain ⟨Ao34, co34, eo34⟩ := Kd.R_slice HO_5.out
                subst eo34
                have p388 : 0 ≤ (x7_2 : Int) := of_decide_eq_true aK
                have q388 : x7_2 < (t378.length : Int) := of_decide_eq_true aK
                obtain ⟨ad388, e388, hx388_0⟩ := Kd.at_int (Kd.R_reads' HO_5.out).2.2 x7_2 p388 q388
                cases e388
                replace p388 := eq_true p388
                replace q388 := eq_true q388
                go_wp2
                go_meet
                case rel => exact ⟨_, (((rd t378 x7_2) == x8_2)), sK, H', ⟨by have := HJ9.out; have := HK2.out; have := HK3.out; first | omega | exact Nat.le_refl _⟩, ⟨by (with_reducible repeat (first | apply Kd.R_alloc | apply Kd.R_drewN | apply Kd.R_drew)); exact HO_5.out⟩, ⟨bB⟩⟩
               ·rw [if_neg c33] at H
                exact absurd H (by simp)
              ·rw [if_neg c32] at H
               have c32b0 : decide (x7_2 < (t378.length : Int)) = false := decide_eq_false c32
               clear c32
               (first | rw [c32b0] | (simp only [i64_w, i32_w]; rw [c32b0]) | skip)
               have H' := Aside0.mk H
               clear H
               obtain ⟨Ao35, co35, eo35⟩ := Kd.R_slice HO_5.out
               subst eo35
               go_wp2
               go_meet
               case rel => exact ⟨_, (false), sK, H', ⟨by have := HJ9.out; have := HK2.out; have := HK3.out; first | omega | exact Nat.le_refl _⟩, ⟨by (with_reducible repeat (first | apply Kd.R_alloc | apply Kd.R_drewN | apply Kd.R_drew)); exact HO_5.out⟩, ⟨bB⟩⟩
             case rest =>
              clear HC31
              try clear c1
              try clear c2
              try clear p2
              try clear c3
              try clear p3
              try clear q3
              try clear hx3
              try clear p6
              try clear c12
              try clear c17
              try clear c17b0
              try clear c18
              try clear c19
              try clear c20
              try clear c22
              try clear c26
              try clear c26b0
              try clear c26b1
              try clear c32
              try clear c32b0
              try clear c33
              try clear c33b0
              try clear hx383_0
              try clear hx383_1
              try clear hx384_0
              try clear hx384_1
              try clear hx388_0
              try clear p383
              try clear p384
              try clear p388
              try clear q383
              try clear q384
              try clear q388
              obtain ⟨kq, x13_30, rfl, HA, HJ30, HO_5, HB⟩ := hcut
              cases kq with
              | zero => exact absurd HA.out (by simp [quaerelaw7_LitTopThere.j3])
              | succ kj30 =>
               have H := HA.out
               clear HA
               simp only [quaerelaw7_LitTopThere.j3] at H
               by_cases c36 : (x13_30 == x9_3) = true
               ·rw [if_pos c36] at H
                have c36b0 : (x13_30 == x9_3) = true := c36
                (try (have c36b1 : decide (x13_30 = x9_3) = true := by simpa using c36))
                (try (have c36b2 : (x13_30 == x9_3) = true := by simpa using c36))
                clear c36
                obtain rfl := Option.some.inj H
                go_wp2
                go_ret
                exact ⟨eK, bB⟩
               ·rw [if_neg c36] at H
                have c36b0 : (x13_30 == x9_3) = false := by simpa using c36
                (try (have c36b1 : decide (x13_30 = x9_3) = false := by simpa using c36))
                (try (have c36b2 : (x13_30 == x9_3) = false := by simpa using c36))
                (try (have c36b3 : ¬ (x13_30 = x9_3) := by simpa using c36))
                clear c36
                by_cases c37 : x13_30 = true
                ·subst c37
                 have H1 : (quaerelaw7_LitTopThere.l0 kj30 l0 l1 t378 (wrap64 (x7_2 + 1)) (wrap64 (x8_2 + 1))) = some r := by rw [if_pos rfl] at H; exact H
                 clear H
                 have H := H1
                 clear H1
                 have H' := Aside0.mk H
                 clear H
                 go_wp2
                 go_roundg kj30
                 case measure => have := HJ9.out; have := HK2.out; have := HK3.out; have := HJ30.out; omega
                 case rel => exact ⟨(wrap64 (x7_2 + 1)), (wrap64 (x8_2 + 1)), sK, sK, H', ⟨by have := HJ9.out; have := HK2.out; have := HK3.out; have := HJ30.out; omega⟩, ⟨by (with_reducible repeat (first | apply Kd.R_alloc | apply Kd.R_drewN | apply Kd.R_drew)); exact HO_5.out⟩, ⟨bB⟩⟩
                ·replace c37 := Bool.eq_false_iff.mpr c37
                 subst c37
                 have H1 : (quaerelaw7_LitTopThere.l0 kj30 l0 l1 t378 x7_2 (wrap64 (x8_2 + 1))) = some r := by rw [if_neg (show ¬ (false = true) by decide)] at H; exact H
                 clear H
                 have H := H1
                 clear H1
                 have H' := Aside0.mk H
                 clear H
                 go_wp2
                 go_roundg kj30
                 case measure => have := HJ9.out; have := HK2.out; have := HK3.out; have := HJ30.out; omega
                 case rel => exact ⟨(x7_2), (wrap64 (x8_2 + 1)), sK, sK, H', ⟨by have := HJ9.out; have := HK2.out; have := HK3.out; have := HJ30.out; omega⟩, ⟨by (with_reducible repeat (first | apply Kd.R_alloc | apply Kd.R_drewN | apply Kd.R_drew)); exact HO_5.out⟩, ⟨bB⟩⟩
         ·rw [if_neg c16] at H
          have c16b0 : decide (x8_2 < (l1.length : Int)) = false := decide_eq_false c16
          clear c16
          obtain rfl := Option.some.inj H
          obtain ⟨Ao38, co38, eo38⟩ := Kd.R_slice HO_5.out
          subst eo38
          go_wp2
          go_ret
          exact ⟨eK, bB⟩
   ·rw [if_neg c9] at H
    have c9b0 : (t382 == 0) = false := beq_eq_false_iff_ne.mpr c9
    have c9b1 : (t382 != 0) = true := bne_iff_ne.mpr c9
    obtain rfl := Option.some.inj H
    go_enter Tryd.func7, Tryd.ntmps7
    go_wp2_with (first | ((with_reducible refine gate_callee (f := 18) rfl ?_); refine goesL_ (some 14) rfl rfl Tryd.func18 (by kernel_rfl) rfl #[] rfl mA ?_; (with_reducible refine (quaerelaw7_awake.calls (hG := gK) k  true _ A3.out).mono ?_); rintro e w39 ⟨rfl, hb⟩; refine ⟨_, rfl, ?_⟩; have n0_ := Aside0.mk (below_step bB hb); clear HB; have HB := n0_; clear n0_; (try clear hb); (try clear hb2); (try clear hk); (try clear hi)) | ((with_reducible refine gate_callee (f := 19) rfl ?_); refine goesL_ (some 22) rfl rfl Tryd.func19 (by kernel_rfl) rfl #[.slice A0 l0.length c0, .slice A1 l1.length c1] rfl mA ?_; (with_reducible refine (lit_Tops.calls (hG := gK) k _ _ l0 _ _ l1 t378 t379 _ ?side1 ?side2 ?side3 ?side4 A7.out).mono ?_); (case side1 => exact cK (Kd.C_below HR0.out HB.out)); (case side2 => exact HC0.out); (case side3 => exact cK (Kd.C_below HR1.out HB.out)); (case side4 => exact HC1.out); rintro e w40 ⟨v380, rfl, ho0, hb⟩; refine ⟨_, rfl, ?_⟩; have n0_ := Aside0.mk (Kd.R_lower ho0 (below_size bB)); have n1_ := Aside0.mk (below_step bB hb); clear HB; have HO381 := n0_; have HB := n1_; clear n0_ n1_; (try clear hb); (try clear hb2); (try clear hk); (try clear hi); (try clear ho0)) | ((with_reducible refine gate_callee (f := 16) rfl ?_); refine goesL_ (some 26) rfl rfl Tryd.func16 (by kernel_rfl) rfl #[.int .i64 t379] rfl mA ?_; (with_reducible refine (quaerelaw0_Num.calls t379 t382 _ A8.out).mono ?_); rintro e w' ⟨rfl, ⟨nd, rfl⟩⟩; refine ⟨_, rfl, ?_⟩; obtain ⟨Ao41, co41, eo41⟩ := Kd.R_slice HO381.out; subst eo41))
    go_ret
    exact ⟨eK, bB⟩
 ·replace c4 := Bool.eq_false_iff.mpr c4
  subst c4
  have H1 : (some false) = some r := by rw [if_neg (show ¬ (false = true) by decide)] at H; exact H
  clear H
  have H := H1
  clear H1
  obtain rfl := Option.some.inj H
  go_enter Tryd.func7, Tryd.ntmps7
  go_wp2_with (first | ((with_reducible refine gate_callee (f := 18) rfl ?_); refine goesL_ (some 14) rfl rfl Tryd.func18 (by kernel_rfl) rfl #[] rfl mA ?_; (with_reducible refine (quaerelaw7_awake.calls (hG := gK) k  false _ A3.out).mono ?_); rintro e w42 ⟨rfl, hb⟩; refine ⟨_, rfl, ?_⟩; have n0_ := Aside0.mk (below_step bB hb); clear HB; have HB := n0_; clear n0_; (try clear hb); (try clear hb2); (try clear hk); (try clear hi)))
  go_ret
  exact ⟨eK, bB⟩

end Go.Proofs.YtfnemhkiopgeaaaDoor.PL
