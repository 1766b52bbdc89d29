-- written by a program of this session's (wip/tools/pp.py), after the kit's print
import Derived.Test.YteffiodbflmfkaaDoorPPx0
import Derived.Test.YteffiodbflmfkaaDoorPPx6
import Derived.Test.YteffiodbflmfkaaDoorPPx20
namespace Go.Proofs.YteffiodbflmfkaaDoor.PP
open Go.RowKit Go.Proofs.YteffiodbflmfkaaDoorW.PrintWords Go.Proofs.YteffiodbflmfkaaDoorW.PrintLast Go.Proofs.YteffiodbflmfkaaDoorW.PrintMore
attribute [local go_sem] jump_ret jumpE_ret max2_int min2_int max_two min_two max_three min_three max_four min_four   -- for this text's walks alone
set_option linter.unusedVariables false
set_option linter.unusedSimpArgs false

/-! ### quaerelaw12_PathAll: function 6 -/
mutual
noncomputable def quaerelaw12_PathAll.l0 : Nat → List Int → List (List Int) → Int → Option (Bool)
 | 0, _, _, _ => none
 | k + 1, x1, x5, x7 => if x7 < (x5.length : Int) then (if 0 ≤ x7 then (if ((rd_L3 x5 x7).length : Int) = 0 then (quaerelaw12_PathAll.j1 k x1 x5 x7 true) else (if 0 ≤ (wrap64 (((rd_L3 x5 x7).length : Int) - 1)) then (if (wrap64 (((rd_L3 x5 x7).length : Int) - 1)) < ((rd_L3 x5 x7).length : Int) then (if x7 < (x1.length : Int) then (quaerelaw12_PathAll.j1 k x1 x5 x7 ((rd (rd_L3 x5 x7) (wrap64 (((rd_L3 x5 x7).length : Int) - 1))) != (mx (rd x1 x7) (-1)))) else (none)) else (none)) else (none))) else (none)) else (if (x5.length : Int) > 0 then (if 0 < (x5.length : Int) then (some (((rd_L3 x5 0).length : Int) == 1)) else (none)) else (some false))
noncomputable def quaerelaw12_PathAll.j1 : Nat → List Int → List (List Int) → Int → Bool → Option (Bool)
 | 0, _, _, _, _ => none
 | k + 1, x1, x5, x7, x59 => if x59 = true then (some false) else (quaerelaw12_PathAll.l1 k x1 x5 x7 0)
noncomputable def quaerelaw12_PathAll.l1 : Nat → List Int → List (List Int) → Int → Int → Option (Bool)
 | 0, _, _, _, _ => none
 | k + 1, x1, x5, x7, x8 => if x8 < x7 then (if 0 ≤ x7 then (if x7 < (x5.length : Int) then (if 0 ≤ (wrap64 (((rd_L3 x5 x7).length : Int) - 1)) then (if (wrap64 (((rd_L3 x5 x7).length : Int) - 1)) ≤ ((rd_L3 x5 x7).length : Int) then (if 0 ≤ x8 then (if x8 < (x5.length : Int) then (if 0 ≤ (wrap64 (((rd_L3 x5 x8).length : Int) - 1)) then (if (wrap64 (((rd_L3 x5 x8).length : Int) - 1)) ≤ ((rd_L3 x5 x8).length : Int) then ((quaerelaw0_SameInts.f k ((rd_L3 x5 x7).take ((wrap64 (((rd_L3 x5 x7).length : Int) - 1)) : Int).toNat) ((rd_L3 x5 x8).take ((wrap64 (((rd_L3 x5 x8).length : Int) - 1)) : Int).toNat)).bind fun t535 => (if t535 = true then (some false) else (quaerelaw12_PathAll.l1 k x1 x5 x7 (wrap64 (x8 + 1))))) else (none)) else (none)) else (none)) else (none)) else (none)) else (none)) else (none)) else (none)) else (quaerelaw12_PathAll.l0 k x1 x5 (wrap64 (x7 + 1)))
end
noncomputable def quaerelaw12_PathAll.f (k : Nat) (l0 : List (S59)) (l1 : List Int) : Option (Bool) := (quaerelaw12_awake.f k).bind fun t509 => (if t509 = true then ((path_Paths.f k l0 l1).bind fun bt510 => ((quaerelaw0_Num.f bt510.2).bind fun t514 => (if t514 = 0 then (if (bt510.1.length : Int) = (l1.length : Int) then (quaerelaw12_PathAll.l0 k l1 bt510.1 0) else (some false)) else (some ((bt510.1.length : Int) == 0))))) else (some false))
theorem quaerelaw12_PathAll.mono_l : ∀ k, (∀ y0 y1 y2, LeO (quaerelaw12_PathAll.l0 k y0 y1 y2) (quaerelaw12_PathAll.l0 (k + 1) y0 y1 y2)) ∧ (∀ y0 y1 y2 y3, LeO (quaerelaw12_PathAll.j1 k y0 y1 y2 y3) (quaerelaw12_PathAll.j1 (k + 1) y0 y1 y2 y3)) ∧ (∀ y0 y1 y2 y3, LeO (quaerelaw12_PathAll.l1 k y0 y1 y2 y3) (quaerelaw12_PathAll.l1 (k + 1) y0 y1 y2 y3))
 | 0 => ⟨fun _ _ _ r h => by simp [quaerelaw12_PathAll.l0] at h, fun _ _ _ _ r h => by simp [quaerelaw12_PathAll.j1] at h, fun _ _ _ _ r h => by simp [quaerelaw12_PathAll.l1] at h⟩
 | k + 1 => by
  obtain ⟨ih0, ih1, ih2⟩ := quaerelaw12_PathAll.mono_l k
  refine ⟨?_, ?_, ?_⟩
  ·intro y0 y1 y2
   unfold quaerelaw12_PathAll.l0
   repeat' first
   | (with_reducible exact ih0 _ _ _)
   | (with_reducible exact ih1 _ _ _ _)
   | (with_reducible exact ih2 _ _ _ _)
   | (with_reducible exact path_Paths.mono _ _ _)
   | (with_reducible exact quaerelaw0_SameInts.mono _ _ _)
   | (with_reducible exact quaerelaw12_awake.mono _)
   | (with_reducible exact LeO.refl _)
   | (with_reducible exact LeO.none _)
   | (with_reducible refine LeO.ite ?_ ?_)
   | (with_reducible refine LeO.bind ?_ (fun _ => ?_))
   | exact ih0 _ _ _
   | exact ih1 _ _ _ _
   | exact ih2 _ _ _ _
   | exact path_Paths.mono _ _ _
   | exact quaerelaw0_SameInts.mono _ _ _
   | exact quaerelaw12_awake.mono _
   | exact LeO.none _
   | refine LeO.ite ?_ ?_
   | refine LeO.bind ?_ (fun _ => ?_)
  ·intro y0 y1 y2 y3
   unfold quaerelaw12_PathAll.j1
   repeat' first
   | (with_reducible exact ih0 _ _ _)
   | (with_reducible exact ih1 _ _ _ _)
   | (with_reducible exact ih2 _ _ _ _)
   | (with_reducible exact path_Paths.mono _ _ _)
   | (with_reducible exact quaerelaw0_SameInts.mono _ _ _)
   | (with_reducible exact quaerelaw12_awake.mono _)
   | (with_reducible exact LeO.refl _)
   | (with_reducible exact LeO.none _)
   | (with_reducible refine LeO.ite ?_ ?_)
   | (with_reducible refine LeO.bind ?_ (fun _ => ?_))
   | exact ih0 _ _ _
   | exact ih1 _ _ _ _
   | exact ih2 _ _ _ _
   | exact path_Paths.mono _ _ _
   | exact quaerelaw0_SameInts.mono _ _ _
   | exact quaerelaw12_awake.mono _
   | exact LeO.none _
   | refine LeO.ite ?_ ?_
   | refine LeO.bind ?_ (fun _ => ?_)
  ·intro y0 y1 y2 y3
   unfold quaerelaw12_PathAll.l1
   repeat' first
   | (with_reducible exact ih0 _ _ _)
   | (with_reducible exact ih1 _ _ _ _)
   | (with_reducible exact ih2 _ _ _ _)
   | (with_reducible exact path_Paths.mono _ _ _)
   | (with_reducible exact quaerelaw0_SameInts.mono _ _ _)
   | (with_reducible exact quaerelaw12_awake.mono _)
   | (with_reducible exact LeO.refl _)
   | (with_reducible exact LeO.none _)
   | (with_reducible refine LeO.ite ?_ ?_)
   | (with_reducible refine LeO.bind ?_ (fun _ => ?_))
   | exact ih0 _ _ _
   | exact ih1 _ _ _ _
   | exact ih2 _ _ _ _
   | exact path_Paths.mono _ _ _
   | exact quaerelaw0_SameInts.mono _ _ _
   | exact quaerelaw12_awake.mono _
   | exact LeO.none _
   | refine LeO.ite ?_ ?_
   | refine LeO.bind ?_ (fun _ => ?_)
theorem quaerelaw12_PathAll.mono : ∀ a0 a1 k, LeO (quaerelaw12_PathAll.f k a0 a1) (quaerelaw12_PathAll.f (k + 1) a0 a1) := by
 intro a0 a1 k
 obtain ⟨ih0, ih1, ih2⟩ := quaerelaw12_PathAll.mono_l k
 unfold quaerelaw12_PathAll.f
 repeat' first
   | (with_reducible exact ih0 _ _ _)
   | (with_reducible exact ih1 _ _ _ _)
   | (with_reducible exact ih2 _ _ _ _)
   | (with_reducible exact path_Paths.mono _ _ _)
   | (with_reducible exact quaerelaw0_SameInts.mono _ _ _)
   | (with_reducible exact quaerelaw12_awake.mono _)
   | (with_reducible exact LeO.refl _)
   | (with_reducible exact LeO.none _)
   | (with_reducible refine LeO.ite ?_ ?_)
   | (with_reducible refine LeO.bind ?_ (fun _ => ?_))
   | exact ih0 _ _ _
   | exact ih1 _ _ _ _
   | exact ih2 _ _ _ _
   | exact path_Paths.mono _ _ _
   | exact quaerelaw0_SameInts.mono _ _ _
   | exact quaerelaw12_awake.mono _
   | exact LeO.none _
   | refine LeO.ite ?_ ?_
   | refine LeO.bind ?_ (fun _ => ?_)
set_option maxHeartbeats 8000000 in
set_option maxRecDepth 100000 in
theorem quaerelaw12_PathAll.calls (k : Nat) (A0 : Option Addr) (c0 : Nat) (l0 : List (S59)) (A1 : Option Addr) (c1 : Nat) (l1 : List Int) (r : Bool) (w : World) (hr0 : Kd.C k59 w A0 l0.length l0) (hc0 : l0.length ≤ c0) (hr1 : Kd.C (Kd.int .i64) w A1 l1.length l1) (hc1 : l1.length ≤ c1) (h : quaerelaw12_PathAll.f k l0 l1 = some r) (hG : Glob w) :
  Calls Tryd.prog 6 #[.slice A0 l0.length c0, .slice A1 l1.length c1] w fun e w' => e = .returned (.bool r) ∧ Below w.heap.size w w' := by
 have HR0 := Aside0.mk hr0
 have HC0 := Aside0.mk hc0
 clear hr0 hc0
 have HR1 := Aside0.mk hr1
 have HC1 := Aside0.mk hc1
 clear hr1 hc1
 have HB := Aside0.mk (Below.refl w.heap.size w)
 have H : ((quaerelaw12_awake.f k).bind fun t509 => (if t509 = true then ((path_Paths.f k l0 l1).bind fun bt510 => ((quaerelaw0_Num.f bt510.2).bind fun t514 => (if t514 = 0 then (if (bt510.1.length : Int) = (l1.length : Int) then (quaerelaw12_PathAll.l0 k l1 bt510.1 0) else (some false)) else (some ((bt510.1.length : Int) == 0))))) else (some false))) = some r := h
 clear h
 replace H := Option.bind_eq_some_iff.mp H
 obtain ⟨t509, A30, H⟩ := H
 replace H : (if t509 = true then ((path_Paths.f k l0 l1).bind fun bt510 => ((quaerelaw0_Num.f bt510.2).bind fun t514 => (if t514 = 0 then (if (bt510.1.length : Int) = (l1.length : Int) then (quaerelaw12_PathAll.l0 k l1 bt510.1 0) else (some false)) else (some ((bt510.1.length : Int) == 0))))) else (some false)) = some r := H
 have A3 := Aside0.mk A30
 clear A30
 by_cases c4 : t509 = true
 ·subst c4
  have H1 : ((path_Paths.f k l0 l1).bind fun bt510 => ((quaerelaw0_Num.f bt510.2).bind fun t514 => (if t514 = 0 then (if (bt510.1.length : Int) = (l1.length : Int) then (quaerelaw12_PathAll.l0 k l1 bt510.1 0) else (some false)) else (some ((bt510.1.length : Int) == 0))))) = some r := by rw [if_pos rfl] at H; exact H
  clear H
  have H := H1
  clear H1
  replace H := Option.bind_eq_some_iff.mp H
  obtain ⟨⟨t510, t513⟩, A50, H⟩ := H
  replace H : ((quaerelaw0_Num.f t513).bind fun t514 => (if t514 = 0 then (if (t510.length : Int) = (l1.length : Int) then (quaerelaw12_PathAll.l0 k l1 t510 0) else (some false)) else (some ((t510.length : Int) == 0)))) = some r := H
  have A5 := Aside0.mk A50
  clear A50
  replace H := Option.bind_eq_some_iff.mp H
  obtain ⟨t514, A60, H⟩ := H
  replace H : (if t514 = 0 then (if (t510.length : Int) = (l1.length : Int) then (quaerelaw12_PathAll.l0 k l1 t510 0) else (some false)) else (some ((t510.length : Int) == 0))) = some r := H
  have A6 := Aside0.mk A60
  clear A60
  by_cases c7 : t514 = 0
  ·rw [if_pos c7] at H
   have c7b0 : (t514 == 0) = true := beq_iff_eq.mpr c7
   have c7b1 : (t514 != 0) = false := bne_eq_false_iff_eq.mpr c7
   clear c7
   by_cases c8 : (t510.length : Int) = (l1.length : Int)
   ·rw [if_pos c8] at H
    have c8b0 : ((t510.length : Int) == (l1.length : Int)) = true := beq_iff_eq.mpr c8
    have c8b1 : ((t510.length : Int) != (l1.length : Int)) = false := bne_eq_false_iff_eq.mpr c8
    have c8b2 : (t510.length == l1.length) = true := by first | simpa using c8 | (simp at c8 ⊢; omega)
    clear c8
    have H' := Aside0.mk H
    clear H
    go_enter Tryd.func6, Tryd.ntmps6
    go_wp2_with (first | (go_at_call 16; (with_reducible refine (quaerelaw12_awake.calls (hG := gK) k  true _ A3.out).mono ?_); rintro e w9 ⟨rfl, hb⟩; have n0_ := Aside0.mk (below_step bB hb); clear HB; have HB := n0_; clear n0_; (try clear hb); (try clear hb2); (try clear hk); (try clear hi)) | (go_at_call 10; (with_reducible refine (path_Paths.calls (hG := gK) k _ _ l0 _ _ l1 t510 t513 _ ?side1 ?side2 ?side3 ?side4 A5.out).mono ?_); (case side1 => exact cK (Kd.C_below HR0.out HB.out)); (case side2 => exact HC0.out); (case side3 => exact cK (Kd.C_below HR1.out HB.out)); (case side4 => exact HC1.out); rintro e w10 ⟨v511, rfl, ho0, hb⟩; have n0_ := Aside0.mk (Kd.N_lower (Kd.N_mono (ok' := fun k_ => True) ho0 (fun k_ hk_ => trivial)) (below_size bB)); have n1_ := Aside0.mk (below_step bB hb); clear HB; have HO512 := n0_; have HB := n1_; clear n0_ n1_; (try clear hb); (try clear hb2); (try clear hk); (try clear hi); (try clear ho0)) | (go_at_call 13; (with_reducible refine (quaerelaw0_Num.calls t513 t514 _ A6.out).mono ?_); rintro e w' ⟨rfl, ⟨nd, rfl⟩⟩; (try first | exact ⟨rfl, _, World.drewN_drewN _ _ _⟩ | exact ⟨rfl, _, Eq.trans (World.drewN_drewN _ _ _) (congrArg (World.drewN _) (Nat.add_assoc _ _ _))⟩); obtain ⟨Ao11, co11, eo11⟩ := Kd.N_slice HO512.out; subst eo11))
    repeat (go_quiet (first | (go_at_call 16; (with_reducible refine (quaerelaw12_awake.calls (hG := gK) k  true _ A3.out).mono ?_); rintro e w9 ⟨rfl, hb⟩; have n0_ := Aside0.mk (below_step bB hb); clear HB; have HB := n0_; clear n0_; (try clear hb); (try clear hb2); (try clear hk); (try clear hi)) | (go_at_call 10; (with_reducible refine (path_Paths.calls (hG := gK) k _ _ l0 _ _ l1 t510 t513 _ ?side1 ?side2 ?side3 ?side4 A5.out).mono ?_); (case side1 => exact cK (Kd.C_below HR0.out HB.out)); (case side2 => exact HC0.out); (case side3 => exact cK (Kd.C_below HR1.out HB.out)); (case side4 => exact HC1.out); rintro e w10 ⟨v511, rfl, ho0, hb⟩; have n0_ := Aside0.mk (Kd.N_lower (Kd.N_mono (ok' := fun k_ => True) ho0 (fun k_ hk_ => trivial)) (below_size bB)); have n1_ := Aside0.mk (below_step bB hb); clear HB; have HO512 := n0_; have HB := n1_; clear n0_ n1_; (try clear hb); (try clear hb2); (try clear hk); (try clear hi); (try clear ho0)) | (go_at_call 13; (with_reducible refine (quaerelaw0_Num.calls t513 t514 _ A6.out).mono ?_); rintro e w' ⟨rfl, ⟨nd, rfl⟩⟩; (try first | exact ⟨rfl, _, World.drewN_drewN _ _ _⟩ | exact ⟨rfl, _, Eq.trans (World.drewN_drewN _ _ _) (congrArg (World.drewN _) (Nat.add_assoc _ _ _))⟩); obtain ⟨Ao11, co11, eo11⟩ := Kd.N_slice HO512.out; subst eo11)); try go_wp2_with (first | (go_at_call 16; (with_reducible refine (quaerelaw12_awake.calls (hG := gK) k  true _ A3.out).mono ?_); rintro e w9 ⟨rfl, hb⟩; have n0_ := Aside0.mk (below_step bB hb); clear HB; have HB := n0_; clear n0_; (try clear hb); (try clear hb2); (try clear hk); (try clear hi)) | (go_at_call 10; (with_reducible refine (path_Paths.calls (hG := gK) k _ _ l0 _ _ l1 t510 t513 _ ?side1 ?side2 ?side3 ?side4 A5.out).mono ?_); (case side1 => exact cK (Kd.C_below HR0.out HB.out)); (case side2 => exact HC0.out); (case side3 => exact cK (Kd.C_below HR1.out HB.out)); (case side4 => exact HC1.out); rintro e w10 ⟨v511, rfl, ho0, hb⟩; have n0_ := Aside0.mk (Kd.N_lower (Kd.N_mono (ok' := fun k_ => True) ho0 (fun k_ hk_ => trivial)) (below_size bB)); have n1_ := Aside0.mk (below_step bB hb); clear HB; have HO512 := n0_; have HB := n1_; clear n0_ n1_; (try clear hb); (try clear hb2); (try clear hk); (try clear hi); (try clear ho0)) | (go_at_call 13; (with_reducible refine (quaerelaw0_Num.calls t513 t514 _ A6.out).mono ?_); rintro e w' ⟨rfl, ⟨nd, rfl⟩⟩; (try first | exact ⟨rfl, _, World.drewN_drewN _ _ _⟩ | exact ⟨rfl, _, Eq.trans (World.drewN_drewN _ _ _) (congrArg (World.drewN _) (Nat.add_assoc _ _ _))⟩); obtain ⟨Ao11, co11, eo11⟩ := Kd.N_slice HO512.out; subst eo11)))
    go_loopg [7] k (fun kq v7 w' => ∃ (x7_1 : Int), v7 = .int .i64 x7_1 ∧ Aside0 (quaerelaw12_PathAll.l0 kq l1 t510 x7_1 = some r) ∧ Aside0 (kq ≤ k) ∧ Aside0 (Kd.N (Kd.slice 3 (Kd.int .i64)) 23 w' w.heap.size (fun _ => True) (.slice Ao11 t510.length co11) t510) ∧ Aside0 (Below w.heap.size w w'))
    case atStart => exact ⟨(0), sK, H', ⟨Nat.le_refl _⟩, ⟨by (with_reducible repeat (first | apply Kd.N_alloc | apply Kd.N_drewN | apply Kd.N_drew)); exact HO512.out⟩, ⟨bB⟩⟩
    case round =>
     clear H'
     try clear c1
     try clear p2
     try clear c4
     try clear c6
     try clear c7
     try clear c7b0
     try clear c7b1
     try clear c8
     try clear c8b0
     try clear c8b1
     try clear c8b2
     obtain ⟨x7_1, rfl, HA, HK1, HO_5, HB⟩ := hrel
     cases gk with
     | zero => exact absurd HA.out (by simp [quaerelaw12_PathAll.l0])
     | succ k1 =>
      have H := HA.out
      clear HA
      simp only [quaerelaw12_PathAll.l0] at H
      by_cases c12 : x7_1 < (t510.length : Int)
      ·rw [if_pos c12] at H
       have c12b0 : decide (x7_1 < (t510.length : Int)) = true := decide_eq_true c12
       clear c12
       have HC13 := Aside0.mk H
       clear H
       go_upto_region 11 with (fail)
       repeat (go_quiet (fail); go_upto_region 11 with (fail))
       go_cut [59] (fun v59 wc => ∃ (kq : Nat) (x59_12 : Bool), v59 = .bool x59_12 ∧ Aside0 (quaerelaw12_PathAll.j1 kq l1 t510 x7_1 x59_12 = some r) ∧ Aside0 (kq ≤ k1) ∧ Aside0 (Kd.N (Kd.slice 3 (Kd.int .i64)) 23 wc w.heap.size (fun _ => True) (.slice Ao11 t510.length co11) t510) ∧ Aside0 (Below w.heap.size w wc))
       case first =>
        have H := HC13.out
        clear HC13
        by_cases c14 : 0 ≤ x7_1
        ·rw [if_pos c14] at H
         have c14b0 : decide (0 ≤ x7_1) = true := decide_eq_true c14
         clear c14
         (first | rw [c14b0] | (simp only [i64_w, i32_w]; rw [c14b0]) | skip)
         by_cases c15 : ((rd_L3 t510 x7_1).length : Int) = 0
         ·rw [if_pos c15] at H
          have c15b0 : (((rd_L3 t510 x7_1).length : Int) == 0) = true := beq_iff_eq.mpr c15
          have c15b1 : (((rd_L3 t510 x7_1).length : Int) != 0) = false := bne_eq_false_iff_eq.mpr c15
          clear c15
          have H' := Aside0.mk H
          clear H
          have p516 : 0 ≤ (x7_1 : Int) := of_decide_eq_true aK
          have q516 : x7_1 < (t510.length : Int) := of_decide_eq_true aK
          obtain ⟨ad516, A516_0, c516_0, e516, hx516_0, hl516_0, hi516_0⟩ := at_L3 (Kd.N_reads' HO_5.out).2.2 x7_1 p516 q516
          cases e516
          obtain ⟨ce516, hce516, hMe516, hcc516⟩ := Kd.N_get HO_5.out [] x7_1 p516 (by first | exact q516 | exact of_decide_eq_true aK | (have e_ := (Kd.N_reads' HO_5.out).1; omega))
          obtain ⟨ua516_0, uc516_0, rfl, ul516_0, ge516_0⟩ := Kd.FK_slice_open hMe516
          have hv516_0 := hcc516 0 _ rfl
          rw [Nat.add_zero, show ((Kd.slice 3 (Kd.int .i64))).sz = 1 from rfl, Nat.mul_one] at hv516_0
          replace hv516_0 := Option.some.inj (hv516_0.symm.trans hx516_0)
          injection hv516_0 with hva_ hvn_ hvc_
          rw [hva_] at ge516_0
          rw [hvc_] at ul516_0
          have HL516_0 := Aside0.mk (show Kd.V (Kd.int .i64) 3 _ w.heap.size _ _ (rd_L3 t510 x7_1) from Kd.V_mk ul516_0 ge516_0)
          clear hva_ hvn_ hvc_ ge516_0 ul516_0 hcc516 hce516
          have HR516_0 := Aside0.mk hi516_0
          have HC516_0 := Aside0.mk hl516_0
          clear hi516_0 hl516_0
          replace p516 := eq_true p516
          replace q516 := eq_true q516
          go_wp2
          repeat (go_quiet (fail); try go_wp2)
          go_meet
          case rel => exact ⟨_, (true), sK, H', ⟨by have := HK1.out; first | omega | exact Nat.le_refl _⟩, ⟨by (with_reducible repeat (first | apply Kd.N_alloc | apply Kd.N_drewN | apply Kd.N_drew)); exact HO_5.out⟩, ⟨bB⟩⟩
         ·rw [if_neg c15] at H
          have c15b0 : (((rd_L3 t510 x7_1).length : Int) == 0) = false := beq_eq_false_iff_ne.mpr c15
          have c15b1 : (((rd_L3 t510 x7_1).length : Int) != 0) = true := bne_iff_ne.mpr c15
          have c15b2 : ¬ ((rd_L3 t510 x7_1) = []) := fun h_ => c15 (by rw [h_]; rfl)
          obtain ⟨ji16, hji16⟩ : ∃ j_ : Int, (wrap64 (((rd_L3 t510 x7_1).length : Int) - 1)) = j_ := ⟨_, rfl⟩
          replace H : (if 0 ≤ (ji16) then (if (ji16) < ((rd_L3 t510 x7_1).length : Int) then (if x7_1 < (l1.length : Int) then (quaerelaw12_PathAll.j1 k1 l1 t510 x7_1 ((rd (rd_L3 t510 x7_1) (ji16)) != (mx (rd l1 x7_1) (-1)))) else (none)) else (none)) else (none)) = some r := by first | (rw [hji16] at H; exact H) | (simp only [hji16] at H ⊢; exact H)
          have hji16w : (IntKind.i64.wrap (((rd_L3 t510 x7_1).length : Int) - 1)) = ji16 := (i64_w _).trans hji16
          by_cases c17 : 0 ≤ (ji16)
          ·rw [if_pos c17] at H
           have c17b0 : decide (0 ≤ (ji16)) = true := decide_eq_true c17
           clear c17
           by_cases c18 : (ji16) < ((rd_L3 t510 x7_1).length : Int)
           ·rw [if_pos c18] at H
            have c18b0 : decide ((ji16) < ((rd_L3 t510 x7_1).length : Int)) = true := decide_eq_true c18
            clear c18
            by_cases c19 : x7_1 < (l1.length : Int)
            ·rw [if_pos c19] at H
             have c19b0 : decide (x7_1 < (l1.length : Int)) = true := decide_eq_true c19
             clear c19
             obtain ⟨ji20, hji20⟩ : ∃ j_ : Int, (mx (rd l1 x7_1) (-1)) = j_ := ⟨_, rfl⟩
             replace H : (quaerelaw12_PathAll.j1 k1 l1 t510 x7_1 ((rd (rd_L3 t510 x7_1) (ji16)) != (ji20))) = some r := by first | (rw [hji20] at H; exact H) | (simp only [hji20] at H ⊢; exact H)
             have hji20_ : (if (rd l1 x7_1) < (-1) then (-1) else (rd l1 x7_1)) = ji20 := hji20
             have H' := Aside0.mk H
             clear H
             have p516 : 0 ≤ (x7_1 : Int) := of_decide_eq_true aK
             have q516 : x7_1 < (t510.length : Int) := of_decide_eq_true aK
             obtain ⟨ad516, A516_0, c516_0, e516, hx516_0, hl516_0, hi516_0⟩ := at_L3 (Kd.N_reads' HO_5.out).2.2 x7_1 p516 q516
             cases e516
             obtain ⟨ce516, hce516, hMe516, hcc516⟩ := Kd.N_get HO_5.out [] x7_1 p516 (by first | exact q516 | exact of_decide_eq_true aK | (have e_ := (Kd.N_reads' HO_5.out).1; omega))
             obtain ⟨ua516_0, uc516_0, rfl, ul516_0, ge516_0⟩ := Kd.FK_slice_open hMe516
             have hv516_0 := hcc516 0 _ rfl
             rw [Nat.add_zero, show ((Kd.slice 3 (Kd.int .i64))).sz = 1 from rfl, Nat.mul_one] at hv516_0
             replace hv516_0 := Option.some.inj (hv516_0.symm.trans hx516_0)
             injection hv516_0 with hva_ hvn_ hvc_
             rw [hva_] at ge516_0
             rw [hvc_] at ul516_0
             have HL516_0 := Aside0.mk (show Kd.V (Kd.int .i64) 3 _ w.heap.size _ _ (rd_L3 t510 x7_1) from Kd.V_mk ul516_0 ge516_0)
             clear hva_ hvn_ hvc_ ge516_0 ul516_0 hcc516 hce516
             have HR516_0 := Aside0.mk hi516_0
             have HC516_0 := Aside0.mk hl516_0
             clear hi516_0 hl516_0
             replace p516 := eq_true p516
             replace q516 := eq_true q516
             have p517 : 0 ≤ (x7_1 : Int) := of_decide_eq_true aK
             have q517 : x7_1 < (t510.length : Int) := of_decide_eq_true aK
             obtain ⟨ad517, A517_0, c517_0, e517, hx517_0, hl517_0, hi517_0⟩ := at_L3 (Kd.N_reads' HO_5.out).2.2 x7_1 p517 q517
             obtain rfl : ad516 = ad517 := (by injection e517)
             obtain ⟨ce517, hce517, hMe517, hcc517⟩ := Kd.N_get HO_5.out [] x7_1 p517 (by first | exact q517 | exact of_decide_eq_true aK | (have e_ := (Kd.N_reads' HO_5.out).1; omega))
             obtain ⟨ua517_0, uc517_0, rfl, ul517_0, ge517_0⟩ := Kd.FK_slice_open hMe517
             have hv517_0 := hcc517 0 _ rfl
             rw [Nat.add_zero, show ((Kd.slice 3 (Kd.int .i64))).sz = 1 from rfl, Nat.mul_one] at hv517_0
             replace hv517_0 := Option.some.inj (hv517_0.symm.trans hx517_0)
             injection hv517_0 with hva_ hvn_ hvc_
             rw [hva_] at ge517_0
             rw [hvc_] at ul517_0
             have HL517_0 := Aside0.mk (show Kd.V (Kd.int .i64) 3 _ w.heap.size _ _ (rd_L3 t510 x7_1) from Kd.V_mk ul517_0 ge517_0)
             clear hva_ hvn_ hvc_ ge517_0 ul517_0 hcc517 hce517
             have HR517_0 := Aside0.mk hi517_0
             have HC517_0 := Aside0.mk hl517_0
             clear hi517_0 hl517_0
             replace p517 := eq_true p517
             replace q517 := eq_true q517
             have ea_ := Option.some.inj (hx516_0.symm.trans hx517_0)
             injection ea_ with ea_ en_ ec_
             subst ea_
             subst ec_
             clear en_
             have p518 : 0 ≤ (x7_1 : Int) := of_decide_eq_true aK
             have q518 : x7_1 < (t510.length : Int) := of_decide_eq_true aK
             obtain ⟨ad518, A518_0, c518_0, e518, hx518_0, hl518_0, hi518_0⟩ := at_L3 (Kd.N_reads' HO_5.out).2.2 x7_1 p518 q518
             obtain rfl : ad516 = ad518 := (by injection e518)
             obtain ⟨ce518, hce518, hMe518, hcc518⟩ := Kd.N_get HO_5.out [] x7_1 p518 (by first | exact q518 | exact of_decide_eq_true aK | (have e_ := (Kd.N_reads' HO_5.out).1; omega))
             obtain ⟨ua518_0, uc518_0, rfl, ul518_0, ge518_0⟩ := Kd.FK_slice_open hMe518
             have hv518_0 := hcc518 0 _ rfl
             rw [Nat.add_zero, show ((Kd.slice 3 (Kd.int .i64))).sz = 1 from rfl, Nat.mul_one] at hv518_0
             replace hv518_0 := Option.some.inj (hv518_0.symm.trans hx518_0)
             injection hv518_0 with hva_ hvn_ hvc_
             rw [hva_] at ge518_0
             rw [hvc_] at ul518_0
             have HL518_0 := Aside0.mk (show Kd.V (Kd.int .i64) 3 _ w.heap.size _ _ (rd_L3 t510 x7_1) from Kd.V_mk ul518_0 ge518_0)
             clear hva_ hvn_ hvc_ ge518_0 ul518_0 hcc518 hce518
             have HR518_0 := Aside0.mk hi518_0
             have HC518_0 := Aside0.mk hl518_0
             clear hi518_0 hl518_0
             replace p518 := eq_true p518
             replace q518 := eq_true q518
             have ea_ := Option.some.inj (hx516_0.symm.trans hx518_0)
             injection ea_ with ea_ en_ ec_
             subst ea_
             subst ec_
             clear en_
             have p519 : 0 ≤ ((ji16) : Int) := of_decide_eq_true aK
             have q519 : (ji16) < ((rd_L3 t510 x7_1).length : Int) := of_decide_eq_true aK
             obtain ⟨ad519, e519, hx519_0⟩ := Kd.at_int (by repeat (first | (with_reducible exact HR517_0.out) | (with_reducible refine Kd.C_alloc ?_ _) | (with_reducible refine Kd.C_drewN ?_ _) | (with_reducible refine Kd.C_drew ?_) | exact HR517_0.out)) (ji16) p519 q519
             cases e519
             replace p519 := eq_true p519
             replace q519 := eq_true q519
             have p520 : 0 ≤ (x7_1 : Int) := of_decide_eq_true aK
             have q520 : x7_1 < (l1.length : Int) := of_decide_eq_true aK
             obtain ⟨ad520, e520, hx520_0⟩ := Kd.at_int HR1.out x7_1 p520 q520
             cases e520
             replace hx520_0 := (HB.out.cell (World.block_lt_of_cell? w _ hx520_0)).trans hx520_0
             replace p520 := eq_true p520
             replace q520 := eq_true q520
             go_wp2
             repeat (go_quiet (fail); try go_wp2)
             go_meet
             case rel => exact ⟨_, (((rd (rd_L3 t510 x7_1) (ji16)) != (ji20))), (by first | rfl | (simp; done) | (simp only [← hji16, ← hji20] <;> (first | rfl | simp)) | (simp [*]; done)), H', ⟨by have := HK1.out; first | omega | exact Nat.le_refl _⟩, ⟨by (with_reducible repeat (first | apply Kd.N_alloc | apply Kd.N_drewN | apply Kd.N_drew)); exact HO_5.out⟩, ⟨bB⟩⟩
            ·rw [if_neg c19] at H
             exact absurd H (by simp)
           ·rw [if_neg c18] at H
            exact absurd H (by simp)
          ·rw [if_neg c17] at H
           exact absurd H (by simp)
        ·rw [if_neg c14] at H
         exact absurd H (by simp)
       case rest =>
        clear HC13
        try clear c1
        try clear p2
        try clear c4
        try clear c5
        try clear p5
        try clear q5
        try clear hx5
        try clear c6
        try clear p6
        try clear c7
        try clear c7b0
        try clear c7b1
        try clear c8
        try clear c8b0
        try clear c8b1
        try clear c8b2
        try clear c12
        try clear c12b0
        try clear c14
        try clear c14b0
        try clear c15
        try clear c15b0
        try clear c15b1
        try clear c15b2
        try clear c17
        try clear c17b0
        try clear c18
        try clear c18b0
        try clear c19
        try clear c19b0
        try clear hx516_0
        try clear hx517_0
        try clear hx518_0
        try clear hx519_0
        try clear hx520_0
        try clear p2
        try clear p516
        try clear p517
        try clear p518
        try clear p519
        try clear p520
        try clear q516
        try clear q517
        try clear q518
        try clear q519
        try clear q520
        obtain ⟨kq, x59_12, rfl, HA, HJ12, HO_5, HB⟩ := hcut
        cases kq with
        | zero => exact absurd HA.out (by simp [quaerelaw12_PathAll.j1])
        | succ kj12 =>
         have H := HA.out
         clear HA
         simp only [quaerelaw12_PathAll.j1] at H
         by_cases c21 : x59_12 = true
         ·subst c21
          have H1 : (some false) = some r := by rw [if_pos rfl] at H; exact H
          clear H
          have H := H1
          clear H1
          obtain rfl := Option.some.inj H
          go_wp2
          repeat (go_quiet (fail); try go_wp2)
          go_ret
          exact ⟨eK, bB⟩
         ·replace c21 := Bool.eq_false_iff.mpr c21
          subst c21
          have H1 : (quaerelaw12_PathAll.l1 kj12 l1 t510 x7_1 0) = some r := by rw [if_neg (show ¬ (false = true) by decide)] at H; exact H
          clear H
          have H := H1
          clear H1
          have H' := Aside0.mk H
          clear H
          go_wp2
          repeat (go_quiet (fail); try go_wp2)
          go_loopg [8] kj12 (fun kq v8 w' => ∃ (x8_3 : Int), v8 = .int .i64 x8_3 ∧ Aside0 (quaerelaw12_PathAll.l1 kq l1 t510 x7_1 x8_3 = some r) ∧ Aside0 (kq ≤ kj12) ∧ Aside0 (Kd.N (Kd.slice 3 (Kd.int .i64)) 23 w' w.heap.size (fun _ => True) (.slice Ao11 t510.length co11) t510) ∧ Aside0 (Below w.heap.size w w'))
          case atStart => exact ⟨(0), sK, H', ⟨Nat.le_refl _⟩, ⟨by (with_reducible repeat (first | apply Kd.N_alloc | apply Kd.N_drewN | apply Kd.N_drew)); exact HO_5.out⟩, ⟨bB⟩⟩
          case round =>
           clear H'
           try clear c1
           try clear c2
           try clear p2
           try clear c4
           try clear c5
           try clear p5
           try clear q5
           try clear hx5
           try clear c6
           try clear p6
           try clear c7
           try clear c7b0
           try clear c7b1
           try clear c8
           try clear c8b0
           try clear c8b1
           try clear c8b2
           try clear c12
           try clear c12b0
           try clear c14
           try clear c14b0
           try clear c15
           try clear c15b0
           try clear c15b1
           try clear c15b2
           try clear c17
           try clear c17b0
           try clear c18
           try clear c18b0
           try clear c19
           try clear c19b0
           try clear c21
           try clear hx516_0
           try clear hx517_0
           try clear hx518_0
           try clear hx519_0
           try clear hx520_0
           try clear p2
           try clear p5
           try clear p516
           try clear p517
           try clear p518
           try clear p519
           try clear p520
           try clear p6
           try clear q5
           try clear q516
           try clear q517
           try clear q518
           try clear q519
           try clear q520
           obtain ⟨x8_3, rfl, HA, HK3, HO_5, HB⟩ := hrel
           cases gk with
           | zero => exact absurd HA.out (by simp [quaerelaw12_PathAll.l1])
           | succ k3 =>
            have H := HA.out
            clear HA
            simp only [quaerelaw12_PathAll.l1] at H
            by_cases c22 : x8_3 < x7_1
            ·rw [if_pos c22] at H
             have c22b0 : decide (x8_3 < x7_1) = true := decide_eq_true c22
             clear c22
             by_cases c23 : 0 ≤ x7_1
             ·rw [if_pos c23] at H
              have c23b0 : decide (0 ≤ x7_1) = true := decide_eq_true c23
              clear c23
              by_cases c24 : x7_1 < (t510.length : Int)
              ·rw [if_pos c24] at H
               have c24b0 : decide (x7_1 < (t510.length : Int)) = true := decide_eq_true c24
               clear c24
               obtain ⟨ji25, hji25⟩ : ∃ j_ : Int, (wrap64 (((rd_L3 t510 x7_1).length : Int) - 1)) = j_ := ⟨_, rfl⟩
               replace H : (if 0 ≤ (ji25) then (if (ji25) ≤ ((rd_L3 t510 x7_1).length : Int) then (if 0 ≤ x8_3 then (if x8_3 < (t510.length : Int) then (if 0 ≤ (wrap64 (((rd_L3 t510 x8_3).length : Int) - 1)) then (if (wrap64 (((rd_L3 t510 x8_3).length : Int) - 1)) ≤ ((rd_L3 t510 x8_3).length : Int) then ((quaerelaw0_SameInts.f k3 ((rd_L3 t510 x7_1).take ((ji25) : Int).toNat) ((rd_L3 t510 x8_3).take ((wrap64 (((rd_L3 t510 x8_3).length : Int) - 1)) : Int).toNat)).bind fun t535 => (if t535 = true then (some false) else (quaerelaw12_PathAll.l1 k3 l1 t510 x7_1 (wrap64 (x8_3 + 1))))) else (none)) else (none)) else (none)) else (none)) else (none)) else (none)) = some r := by first | (rw [hji25] at H; exact H) | (simp only [hji25] at H ⊢; exact H)
               have hji25w : (IntKind.i64.wrap (((rd_L3 t510 x7_1).length : Int) - 1)) = ji25 := (i64_w _).trans hji25
               by_cases c26 : 0 ≤ (ji25)
               ·rw [if_pos c26] at H
                have c26b0 := eq_true c26
                have c26b1 : decide (0 ≤ (ji25)) = true := decide_eq_true c26
                clear c26
                by_cases c27 : (ji25) ≤ ((rd_L3 t510 x7_1).length : Int)
                ·rw [if_pos c27] at H
                 have c27b0 := eq_true c27
                 have c27b1 : decide ((ji25) ≤ ((rd_L3 t510 x7_1).length : Int)) = true := decide_eq_true c27
                 clear c27
                 obtain ⟨y523, hy523⟩ : ∃ y_ : List Int, y_ = ((rd_L3 t510 x7_1).take ((ji25) : Int).toNat) := ⟨_, rfl⟩
                 replace H : (if 0 ≤ x8_3 then (if x8_3 < (t510.length : Int) then (if 0 ≤ (wrap64 (((rd_L3 t510 x8_3).length : Int) - 1)) then (if (wrap64 (((rd_L3 t510 x8_3).length : Int) - 1)) ≤ ((rd_L3 t510 x8_3).length : Int) then ((quaerelaw0_SameInts.f k3 y523 ((rd_L3 t510 x8_3).take ((wrap64 (((rd_L3 t510 x8_3).length : Int) - 1)) : Int).toNat)).bind fun t535 => (if t535 = true then (some false) else (quaerelaw12_PathAll.l1 k3 l1 t510 x7_1 (wrap64 (x8_3 + 1))))) else (none)) else (none)) else (none)) else (none)) = some r := by first | (rw [hy523]; with_reducible exact H) | (have H2_ := (Option.bind_some _ _).symm.trans H; rw [hy523]; with_reducible exact H2_) | (have H2_ := (Option.bind_some _ _).symm.trans H; with_reducible exact H2_) | with_reducible exact H | (rw [hy523]; exact H) | exact H
                 have Ny523 := Aside0.mk hy523
                 clear hy523
                 by_cases c28 : 0 ≤ x8_3
                 ·rw [if_pos c28] at H
                  have c28b0 : decide (0 ≤ x8_3) = true := decide_eq_true c28
                  clear c28
                  by_cases c29 : x8_3 < (t510.length : Int)
                  ·rw [if_pos c29] at H
                   have c29b0 : decide (x8_3 < (t510.length : Int)) = true := decide_eq_true c29
                   clear c29
                   obtain ⟨ji30, hji30⟩ : ∃ j_ : Int, (wrap64 (((rd_L3 t510 x8_3).length : Int) - 1)) = j_ := ⟨_, rfl⟩
                   replace H : (if 0 ≤ (ji30) then (if (ji30) ≤ ((rd_L3 t510 x8_3).length : Int) then ((quaerelaw0_SameInts.f k3 y523 ((rd_L3 t510 x8_3).take ((ji30) : Int).toNat)).bind fun t535 => (if t535 = true then (some false) else (quaerelaw12_PathAll.l1 k3 l1 t510 x7_1 (wrap64 (x8_3 + 1))))) else (none)) else (none)) = some r := by first | (rw [hji30] at H; exact H) | (simp only [hji30] at H ⊢; exact H)
                   have hji30w : (IntKind.i64.wrap (((rd_L3 t510 x8_3).length : Int) - 1)) = ji30 := (i64_w _).trans hji30
                   by_cases c31 : 0 ≤ (ji30)
                   ·rw [if_pos c31] at H
                    have c31b0 := eq_true c31
                    have c31b1 : decide (0 ≤ (ji30)) = true := decide_eq_true c31
                    clear c31
                    by_cases c32 : (ji30) ≤ ((rd_L3 t510 x8_3).length : Int)
                    ·rw [if_pos c32] at H
                     have c32b0 := eq_true c32
                     have c32b1 : decide ((ji30) ≤ ((rd_L3 t510 x8_3).length : Int)) = true := decide_eq_true c32
                     clear c32
                     obtain ⟨y530, hy530⟩ : ∃ y_ : List Int, y_ = ((rd_L3 t510 x8_3).take ((ji30) : Int).toNat) := ⟨_, rfl⟩
                     replace H : ((quaerelaw0_SameInts.f k3 y523 y530).bind fun t535 => (if t535 = true then (some false) else (quaerelaw12_PathAll.l1 k3 l1 t510 x7_1 (wrap64 (x8_3 + 1))))) = some r := by first | (rw [hy530]; with_reducible exact H) | (have H2_ := (Option.bind_some _ _).symm.trans H; rw [hy530]; with_reducible exact H2_) | (have H2_ := (Option.bind_some _ _).symm.trans H; with_reducible exact H2_) | with_reducible exact H | (rw [hy530]; exact H) | exact H
                     have Ny530 := Aside0.mk hy530
                     clear hy530
                     replace H := Option.bind_eq_some_iff.mp H
                     obtain ⟨t535, A330, H⟩ := H
                     replace H : (if t535 = true then (some false) else (quaerelaw12_PathAll.l1 k3 l1 t510 x7_1 (wrap64 (x8_3 + 1)))) = some r := H
                     have A33 := Aside0.mk A330
                     clear A330
                     by_cases c34 : t535 = true
                     ·subst c34
                      have H1 : (some false) = some r := by rw [if_pos rfl] at H; exact H
                      clear H
                      have H := H1
                      clear H1
                      obtain rfl := Option.some.inj H
                      have p521 : 0 ≤ (x7_1 : Int) := of_decide_eq_true aK
                      have q521 : x7_1 < (t510.length : Int) := of_decide_eq_true aK
                      obtain ⟨ad521, A521_0, c521_0, e521, hx521_0, hl521_0, hi521_0⟩ := at_L3 (Kd.N_reads' HO_5.out).2.2 x7_1 p521 q521
                      cases e521
                      obtain ⟨ce521, hce521, hMe521, hcc521⟩ := Kd.N_get HO_5.out [] x7_1 p521 (by first | exact q521 | exact of_decide_eq_true aK | (have e_ := (Kd.N_reads' HO_5.out).1; omega))
                      obtain ⟨ua521_0, uc521_0, rfl, ul521_0, ge521_0⟩ := Kd.FK_slice_open hMe521
                      have hv521_0 := hcc521 0 _ rfl
                      rw [Nat.add_zero, show ((Kd.slice 3 (Kd.int .i64))).sz = 1 from rfl, Nat.mul_one] at hv521_0
                      replace hv521_0 := Option.some.inj (hv521_0.symm.trans hx521_0)
                      injection hv521_0 with hva_ hvn_ hvc_
                      rw [hva_] at ge521_0
                      rw [hvc_] at ul521_0
                      have HL521_0 := Aside0.mk (show Kd.V (Kd.int .i64) 3 _ w.heap.size _ _ (rd_L3 t510 x7_1) from Kd.V_mk ul521_0 ge521_0)
                      clear hva_ hvn_ hvc_ ge521_0 ul521_0 hcc521 hce521
                      have HR521_0 := Aside0.mk hi521_0
                      have HC521_0 := Aside0.mk hl521_0
                      clear hi521_0 hl521_0
                      replace p521 := eq_true p521
                      replace q521 := eq_true q521
                      have p522 : 0 ≤ (x7_1 : Int) := of_decide_eq_true aK
                      have q522 : x7_1 < (t510.length : Int) := of_decide_eq_true aK
                      obtain ⟨ad522, A522_0, c522_0, e522, hx522_0, hl522_0, hi522_0⟩ := at_L3 (Kd.N_reads' HO_5.out).2.2 x7_1 p522 q522
                      obtain rfl : ad521 = ad522 := (by injection e522)
                      obtain ⟨ce522, hce522, hMe522, hcc522⟩ := Kd.N_get HO_5.out [] x7_1 p522 (by first | exact q522 | exact of_decide_eq_true aK | (have e_ := (Kd.N_reads' HO_5.out).1; omega))
                      obtain ⟨ua522_0, uc522_0, rfl, ul522_0, ge522_0⟩ := Kd.FK_slice_open hMe522
                      have hv522_0 := hcc522 0 _ rfl
                      rw [Nat.add_zero, show ((Kd.slice 3 (Kd.int .i64))).sz = 1 from rfl, Nat.mul_one] at hv522_0
                      replace hv522_0 := Option.some.inj (hv522_0.symm.trans hx522_0)
                      injection hv522_0 with hva_ hvn_ hvc_
                      rw [hva_] at ge522_0
                      rw [hvc_] at ul522_0
                      have HL522_0 := Aside0.mk (show Kd.V (Kd.int .i64) 3 _ w.heap.size _ _ (rd_L3 t510 x7_1) from Kd.V_mk ul522_0 ge522_0)
                      clear hva_ hvn_ hvc_ ge522_0 ul522_0 hcc522 hce522
                      have HR522_0 := Aside0.mk hi522_0
                      have HC522_0 := Aside0.mk hl522_0
                      clear hi522_0 hl522_0
                      replace p522 := eq_true p522
                      replace q522 := eq_true q522
                      have ea_ := Option.some.inj (hx521_0.symm.trans hx522_0)
                      injection ea_ with ea_ en_ ec_
                      subst ea_
                      subst ec_
                      clear en_
                      have q35 : ((ji25) : Int) ≤ (((rd_L3 t510 x7_1).length : Int) : Int) := of_decide_eq_true aK
                      obtain ⟨i035, hi035, _, hsz35, _⟩ := info_parts info3
                      have hroom35 : (rd_L3 t510 x7_1).length ≤ c521_0 := HC521_0.out
                      have hC35 : Kd.F (Kd.int .i64) _ _ A521_0 (rd_L3 t510 x7_1).length (rd_L3 t510 x7_1) := (Kd.V_at (base := w.heap.size) HL521_0.out).2.2
                      have hcut35 := cut_to (P := Tryd.prog) 23 3 .i64 Tryd.underlying23 hi035 A521_0 (rd_L3 t510 x7_1).length c521_0 (ji25) (of_decide_eq_true aK) q35 hroom35
                      have hr35 := Kd.F_take (m := ((ji25) : Int).toNat) hC35 (by omega)
                      have hy35 : y523.length = ((ji25) : Int).toNat := (by rw [Ny523.out, List.length_take]; omega)
                      rw [← Ny523.out] at hr35
                      rw [← hy35] at hcut35
                      have HO527 := Aside0.mk (show Kd.V (Kd.int .i64) 3 _ w.heap.size _ (.slice A521_0 y523.length c521_0) y523 from Kd.V_mk (by omega) hr35)
                      have HC527 := Aside0.mk (show y523.length ≤ c521_0 from by omega)
                      clear hr35 hC35 hroom35 hi035 hsz35
                      have KY35 := Aside0.mk hy35
                      clear hy35
                      replace q35 := eq_true q35
                      have p528 : 0 ≤ (x8_3 : Int) := of_decide_eq_true aK
                      have q528 : x8_3 < (t510.length : Int) := of_decide_eq_true aK
                      obtain ⟨ad528, A528_0, c528_0, e528, hx528_0, hl528_0, hi528_0⟩ := at_L3 (Kd.N_reads' HO_5.out).2.2 x8_3 p528 q528
                      obtain rfl : ad521 = ad528 := (by injection e528)
                      obtain ⟨ce528, hce528, hMe528, hcc528⟩ := Kd.N_get HO_5.out [] x8_3 p528 (by first | exact q528 | exact of_decide_eq_true aK | (have e_ := (Kd.N_reads' HO_5.out).1; omega))
                      obtain ⟨ua528_0, uc528_0, rfl, ul528_0, ge528_0⟩ := Kd.FK_slice_open hMe528
                      have hv528_0 := hcc528 0 _ rfl
                      rw [Nat.add_zero, show ((Kd.slice 3 (Kd.int .i64))).sz = 1 from rfl, Nat.mul_one] at hv528_0
                      replace hv528_0 := Option.some.inj (hv528_0.symm.trans hx528_0)
                      injection hv528_0 with hva_ hvn_ hvc_
                      rw [hva_] at ge528_0
                      rw [hvc_] at ul528_0
                      have HL528_0 := Aside0.mk (show Kd.V (Kd.int .i64) 3 _ w.heap.size _ _ (rd_L3 t510 x8_3) from Kd.V_mk ul528_0 ge528_0)
                      clear hva_ hvn_ hvc_ ge528_0 ul528_0 hcc528 hce528
                      have HR528_0 := Aside0.mk hi528_0
                      have HC528_0 := Aside0.mk hl528_0
                      clear hi528_0 hl528_0
                      replace p528 := eq_true p528
                      replace q528 := eq_true q528
                      have p529 : 0 ≤ (x8_3 : Int) := of_decide_eq_true aK
                      have q529 : x8_3 < (t510.length : Int) := of_decide_eq_true aK
                      obtain ⟨ad529, A529_0, c529_0, e529, hx529_0, hl529_0, hi529_0⟩ := at_L3 (Kd.N_reads' HO_5.out).2.2 x8_3 p529 q529
                      obtain rfl : ad521 = ad529 := (by injection e529)
                      obtain ⟨ce529, hce529, hMe529, hcc529⟩ := Kd.N_get HO_5.out [] x8_3 p529 (by first | exact q529 | exact of_decide_eq_true aK | (have e_ := (Kd.N_reads' HO_5.out).1; omega))
                      obtain ⟨ua529_0, uc529_0, rfl, ul529_0, ge529_0⟩ := Kd.FK_slice_open hMe529
                      have hv529_0 := hcc529 0 _ rfl
                      rw [Nat.add_zero, show ((Kd.slice 3 (Kd.int .i64))).sz = 1 from rfl, Nat.mul_one] at hv529_0
                      replace hv529_0 := Option.some.inj (hv529_0.symm.trans hx529_0)
                      injection hv529_0 with hva_ hvn_ hvc_
                      rw [hva_] at ge529_0
                      rw [hvc_] at ul529_0
                      have HL529_0 := Aside0.mk (show Kd.V (Kd.int .i64) 3 _ w.heap.size _ _ (rd_L3 t510 x8_3) from Kd.V_mk ul529_0 ge529_0)
                      clear hva_ hvn_ hvc_ ge529_0 ul529_0 hcc529 hce529
                      have HR529_0 := Aside0.mk hi529_0
                      have HC529_0 := Aside0.mk hl529_0
                      clear hi529_0 hl529_0
                      replace p529 := eq_true p529
                      replace q529 := eq_true q529
                      have ea_ := Option.some.inj (hx528_0.symm.trans hx529_0)
                      injection ea_ with ea_ en_ ec_
                      subst ea_
                      subst ec_
                      clear en_
                      have q36 : ((ji30) : Int) ≤ (((rd_L3 t510 x8_3).length : Int) : Int) := of_decide_eq_true aK
                      obtain ⟨i036, hi036, _, hsz36, _⟩ := info_parts info3
                      have hroom36 : (rd_L3 t510 x8_3).length ≤ c528_0 := HC528_0.out
                      have hC36 : Kd.F (Kd.int .i64) _ _ A528_0 (rd_L3 t510 x8_3).length (rd_L3 t510 x8_3) := (Kd.V_at (base := w.heap.size) HL528_0.out).2.2
                      have hcut36 := cut_to (P := Tryd.prog) 23 3 .i64 Tryd.underlying23 hi036 A528_0 (rd_L3 t510 x8_3).length c528_0 (ji30) (of_decide_eq_true aK) q36 hroom36
                      have hr36 := Kd.F_take (m := ((ji30) : Int).toNat) hC36 (by omega)
                      have hy36 : y530.length = ((ji30) : Int).toNat := (by rw [Ny530.out, List.length_take]; omega)
                      rw [← Ny530.out] at hr36
                      rw [← hy36] at hcut36
                      have HO534 := Aside0.mk (show Kd.V (Kd.int .i64) 3 _ w.heap.size _ (.slice A528_0 y530.length c528_0) y530 from Kd.V_mk (by omega) hr36)
                      have HC534 := Aside0.mk (show y530.length ≤ c528_0 from by omega)
                      clear hr36 hC36 hroom36 hi036 hsz36
                      have KY36 := Aside0.mk hy36
                      clear hy36
                      replace q36 := eq_true q36
                      go_wp2_with (first | (go_at_call 20; (with_reducible refine (quaerelaw0_SameInts.calls k3 _ _ y523 _ _ y530 true _ ?side1 ?side2 ?side3 ?side4 A33.out).mono ?_); (case side1 => exact cK ((Kd.V_reads' HO527.out).2.2)); (case side2 => exact (Kd.V_reads' HO527.out).2.1); (case side3 => exact cK ((Kd.V_reads' HO534.out).2.2)); (case side4 => exact (Kd.V_reads' HO534.out).2.1); rintro e w' ⟨rfl, ⟨nd, rfl⟩⟩; (try first | exact ⟨rfl, _, World.drewN_drewN _ _ _⟩ | exact ⟨rfl, _, Eq.trans (World.drewN_drewN _ _ _) (congrArg (World.drewN _) (Nat.add_assoc _ _ _))⟩)))
                      repeat (go_quiet (first | (go_at_call 20; (with_reducible refine (quaerelaw0_SameInts.calls k3 _ _ y523 _ _ y530 true _ ?side1 ?side2 ?side3 ?side4 A33.out).mono ?_); (case side1 => exact cK ((Kd.V_reads' HO527.out).2.2)); (case side2 => exact (Kd.V_reads' HO527.out).2.1); (case side3 => exact cK ((Kd.V_reads' HO534.out).2.2)); (case side4 => exact (Kd.V_reads' HO534.out).2.1); rintro e w' ⟨rfl, ⟨nd, rfl⟩⟩; (try first | exact ⟨rfl, _, World.drewN_drewN _ _ _⟩ | exact ⟨rfl, _, Eq.trans (World.drewN_drewN _ _ _) (congrArg (World.drewN _) (Nat.add_assoc _ _ _))⟩))); try go_wp2_with (first | (go_at_call 20; (with_reducible refine (quaerelaw0_SameInts.calls k3 _ _ y523 _ _ y530 true _ ?side1 ?side2 ?side3 ?side4 A33.out).mono ?_); (case side1 => exact cK ((Kd.V_reads' HO527.out).2.2)); (case side2 => exact (Kd.V_reads' HO527.out).2.1); (case side3 => exact cK ((Kd.V_reads' HO534.out).2.2)); (case side4 => exact (Kd.V_reads' HO534.out).2.1); rintro e w' ⟨rfl, ⟨nd, rfl⟩⟩; (try first | exact ⟨rfl, _, World.drewN_drewN _ _ _⟩ | exact ⟨rfl, _, Eq.trans (World.drewN_drewN _ _ _) (congrArg (World.drewN _) (Nat.add_assoc _ _ _))⟩))))
                      go_ret
                      exact ⟨by first | rfl | (simp [errW_none, errW_some] <;> rfl) | (simp only [← hji25, ← hji30]; first | rfl | (simp [errW_none, errW_some] <;> rfl)) | (simp [*, errW_none, errW_some] <;> rfl), bB⟩
                     ·replace c34 := Bool.eq_false_iff.mpr c34
                      subst c34
                      have H1 : (quaerelaw12_PathAll.l1 k3 l1 t510 x7_1 (wrap64 (x8_3 + 1))) = some r := by rw [if_neg (show ¬ (false = true) by decide)] at H; exact H
                      clear H
                      have H := H1
                      clear H1
                      have H' := Aside0.mk H
                      clear H
                      have p521 : 0 ≤ (x7_1 : Int) := of_decide_eq_true aK
                      have q521 : x7_1 < (t510.length : Int) := of_decide_eq_true aK
                      obtain ⟨ad521, A521_0, c521_0, e521, hx521_0, hl521_0, hi521_0⟩ := at_L3 (Kd.N_reads' HO_5.out).2.2 x7_1 p521 q521
                      cases e521
                      obtain ⟨ce521, hce521, hMe521, hcc521⟩ := Kd.N_get HO_5.out [] x7_1 p521 (by first | exact q521 | exact of_decide_eq_true aK | (have e_ := (Kd.N_reads' HO_5.out).1; omega))
                      obtain ⟨ua521_0, uc521_0, rfl, ul521_0, ge521_0⟩ := Kd.FK_slice_open hMe521
                      have hv521_0 := hcc521 0 _ rfl
                      rw [Nat.add_zero, show ((Kd.slice 3 (Kd.int .i64))).sz = 1 from rfl, Nat.mul_one] at hv521_0
                      replace hv521_0 := Option.some.inj (hv521_0.symm.trans hx521_0)
                      injection hv521_0 with hva_ hvn_ hvc_
                      rw [hva_] at ge521_0
                      rw [hvc_] at ul521_0
                      have HL521_0 := Aside0.mk (show Kd.V (Kd.int .i64) 3 _ w.heap.size _ _ (rd_L3 t510 x7_1) from Kd.V_mk ul521_0 ge521_0)
                      clear hva_ hvn_ hvc_ ge521_0 ul521_0 hcc521 hce521
                      have HR521_0 := Aside0.mk hi521_0
                      have HC521_0 := Aside0.mk hl521_0
                      clear hi521_0 hl521_0
                      replace p521 := eq_true p521
                      replace q521 := eq_true q521
                      have p522 : 0 ≤ (x7_1 : Int) := of_decide_eq_true aK
                      have q522 : x7_1 < (t510.length : Int) := of_decide_eq_true aK
                      obtain ⟨ad522, A522_0, c522_0, e522, hx522_0, hl522_0, hi522_0⟩ := at_L3 (Kd.N_reads' HO_5.out).2.2 x7_1 p522 q522
                      obtain rfl : ad521 = ad522 := (by injection e522)
                      obtain ⟨ce522, hce522, hMe522, hcc522⟩ := Kd.N_get HO_5.out [] x7_1 p522 (by first | exact q522 | exact of_decide_eq_true aK | (have e_ := (Kd.N_reads' HO_5.out).1; omega))
                      obtain ⟨ua522_0, uc522_0, rfl, ul522_0, ge522_0⟩ := Kd.FK_slice_open hMe522
                      have hv522_0 := hcc522 0 _ rfl
                      rw [Nat.add_zero, show ((Kd.slice 3 (Kd.int .i64))).sz = 1 from rfl, Nat.mul_one] at hv522_0
                      replace hv522_0 := Option.some.inj (hv522_0.symm.trans hx522_0)
                      injection hv522_0 with hva_ hvn_ hvc_
                      rw [hva_] at ge522_0
                      rw [hvc_] at ul522_0
                      have HL522_0 := Aside0.mk (show Kd.V (Kd.int .i64) 3 _ w.heap.size _ _ (rd_L3 t510 x7_1) from Kd.V_mk ul522_0 ge522_0)
                      clear hva_ hvn_ hvc_ ge522_0 ul522_0 hcc522 hce522
                      have HR522_0 := Aside0.mk hi522_0
                      have HC522_0 := Aside0.mk hl522_0
                      clear hi522_0 hl522_0
                      replace p522 := eq_true p522
                      replace q522 := eq_true q522
                      have ea_ := Option.some.inj (hx521_0.symm.trans hx522_0)
                      injection ea_ with ea_ en_ ec_
                      subst ea_
                      subst ec_
                      clear en_
                      have q37 : ((ji25) : Int) ≤ (((rd_L3 t510 x7_1).length : Int) : Int) := of_decide_eq_true aK
                      obtain ⟨i037, hi037, _, hsz37, _⟩ := info_parts info3
                      have hroom37 : (rd_L3 t510 x7_1).length ≤ c521_0 := HC521_0.out
                      have hC37 : Kd.F (Kd.int .i64) _ _ A521_0 (rd_L3 t510 x7_1).length (rd_L3 t510 x7_1) := (Kd.V_at (base := w.heap.size) HL521_0.out).2.2
                      have hcut37 := cut_to (P := Tryd.prog) 23 3 .i64 Tryd.underlying23 hi037 A521_0 (rd_L3 t510 x7_1).length c521_0 (ji25) (of_decide_eq_true aK) q37 hroom37
                      have hr37 := Kd.F_take (m := ((ji25) : Int).toNat) hC37 (by omega)
                      have hy37 : y523.length = ((ji25) : Int).toNat := (by rw [Ny523.out, List.length_take]; omega)
                      rw [← Ny523.out] at hr37
                      rw [← hy37] at hcut37
                      have HO527 := Aside0.mk (show Kd.V (Kd.int .i64) 3 _ w.heap.size _ (.slice A521_0 y523.length c521_0) y523 from Kd.V_mk (by omega) hr37)
                      have HC527 := Aside0.mk (show y523.length ≤ c521_0 from by omega)
                      clear hr37 hC37 hroom37 hi037 hsz37
                      have KY37 := Aside0.mk hy37
                      clear hy37
                      replace q37 := eq_true q37
                      have p528 : 0 ≤ (x8_3 : Int) := of_decide_eq_true aK
                      have q528 : x8_3 < (t510.length : Int) := of_decide_eq_true aK
                      obtain ⟨ad528, A528_0, c528_0, e528, hx528_0, hl528_0, hi528_0⟩ := at_L3 (Kd.N_reads' HO_5.out).2.2 x8_3 p528 q528
                      obtain rfl : ad521 = ad528 := (by injection e528)
                      obtain ⟨ce528, hce528, hMe528, hcc528⟩ := Kd.N_get HO_5.out [] x8_3 p528 (by first | exact q528 | exact of_decide_eq_true aK | (have e_ := (Kd.N_reads' HO_5.out).1; omega))
                      obtain ⟨ua528_0, uc528_0, rfl, ul528_0, ge528_0⟩ := Kd.FK_slice_open hMe528
                      have hv528_0 := hcc528 0 _ rfl
                      rw [Nat.add_zero, show ((Kd.slice 3 (Kd.int .i64))).sz = 1 from rfl, Nat.mul_one] at hv528_0
                      replace hv528_0 := Option.some.inj (hv528_0.symm.trans hx528_0)
                      injection hv528_0 with hva_ hvn_ hvc_
                      rw [hva_] at ge528_0
                      rw [hvc_] at ul528_0
                      have HL528_0 := Aside0.mk (show Kd.V (Kd.int .i64) 3 _ w.heap.size _ _ (rd_L3 t510 x8_3) from Kd.V_mk ul528_0 ge528_0)
                      clear hva_ hvn_ hvc_ ge528_0 ul528_0 hcc528 hce528
                      have HR528_0 := Aside0.mk hi528_0
                      have HC528_0 := Aside0.mk hl528_0
                      clear hi528_0 hl528_0
                      replace p528 := eq_true p528
                      replace q528 := eq_true q528
                      have p529 : 0 ≤ (x8_3 : Int) := of_decide_eq_true aK
                      have q529 : x8_3 < (t510.length : Int) := of_decide_eq_true aK
                      obtain ⟨ad529, A529_0, c529_0, e529, hx529_0, hl529_0, hi529_0⟩ := at_L3 (Kd.N_reads' HO_5.out).2.2 x8_3 p529 q529
                      obtain rfl : ad521 = ad529 := (by injection e529)
                      obtain ⟨ce529, hce529, hMe529, hcc529⟩ := Kd.N_get HO_5.out [] x8_3 p529 (by first | exact q529 | exact of_decide_eq_true aK | (have e_ := (Kd.N_reads' HO_5.out).1; omega))
                      obtain ⟨ua529_0, uc529_0, rfl, ul529_0, ge529_0⟩ := Kd.FK_slice_open hMe529
                      have hv529_0 := hcc529 0 _ rfl
                      rw [Nat.add_zero, show ((Kd.slice 3 (Kd.int .i64))).sz = 1 from rfl, Nat.mul_one] at hv529_0
                      replace hv529_0 := Option.some.inj (hv529_0.symm.trans hx529_0)
                      injection hv529_0 with hva_ hvn_ hvc_
                      rw [hva_] at ge529_0
                      rw [hvc_] at ul529_0
                      have HL529_0 := Aside0.mk (show Kd.V (Kd.int .i64) 3 _ w.heap.size _ _ (rd_L3 t510 x8_3) from Kd.V_mk ul529_0 ge529_0)
                      clear hva_ hvn_ hvc_ ge529_0 ul529_0 hcc529 hce529
                      have HR529_0 := Aside0.mk hi529_0
                      have HC529_0 := Aside0.mk hl529_0
                      clear hi529_0 hl529_0
                      replace p529 := eq_true p529
                      replace q529 := eq_true q529
                      have ea_ := Option.some.inj (hx528_0.symm.trans hx529_0)
                      injection ea_ with ea_ en_ ec_
                      subst ea_
                      subst ec_
                      clear en_
                      have q38 : ((ji30) : Int) ≤ (((rd_L3 t510 x8_3).length : Int) : Int) := of_decide_eq_true aK
                      obtain ⟨i038, hi038, _, hsz38, _⟩ := info_parts info3
                      have hroom38 : (rd_L3 t510 x8_3).length ≤ c528_0 := HC528_0.out
                      have hC38 : Kd.F (Kd.int .i64) _ _ A528_0 (rd_L3 t510 x8_3).length (rd_L3 t510 x8_3) := (Kd.V_at (base := w.heap.size) HL528_0.out).2.2
                      have hcut38 := cut_to (P := Tryd.prog) 23 3 .i64 Tryd.underlying23 hi038 A528_0 (rd_L3 t510 x8_3).length c528_0 (ji30) (of_decide_eq_true aK) q38 hroom38
                      have hr38 := Kd.F_take (m := ((ji30) : Int).toNat) hC38 (by omega)
                      have hy38 : y530.length = ((ji30) : Int).toNat := (by rw [Ny530.out, List.length_take]; omega)
                      rw [← Ny530.out] at hr38
                      rw [← hy38] at hcut38
                      have HO534 := Aside0.mk (show Kd.V (Kd.int .i64) 3 _ w.heap.size _ (.slice A528_0 y530.length c528_0) y530 from Kd.V_mk (by omega) hr38)
                      have HC534 := Aside0.mk (show y530.length ≤ c528_0 from by omega)
                      clear hr38 hC38 hroom38 hi038 hsz38
                      have KY38 := Aside0.mk hy38
                      clear hy38
                      replace q38 := eq_true q38
                      go_wp2_with (first | (go_at_call 20; (with_reducible refine (quaerelaw0_SameInts.calls k3 _ _ y523 _ _ y530 false _ ?side1 ?side2 ?side3 ?side4 A33.out).mono ?_); (case side1 => exact cK ((Kd.V_reads' HO527.out).2.2)); (case side2 => exact (Kd.V_reads' HO527.out).2.1); (case side3 => exact cK ((Kd.V_reads' HO534.out).2.2)); (case side4 => exact (Kd.V_reads' HO534.out).2.1); rintro e w' ⟨rfl, ⟨nd, rfl⟩⟩; (try first | exact ⟨rfl, _, World.drewN_drewN _ _ _⟩ | exact ⟨rfl, _, Eq.trans (World.drewN_drewN _ _ _) (congrArg (World.drewN _) (Nat.add_assoc _ _ _))⟩)))
                      repeat (go_quiet (first | (go_at_call 20; (with_reducible refine (quaerelaw0_SameInts.calls k3 _ _ y523 _ _ y530 false _ ?side1 ?side2 ?side3 ?side4 A33.out).mono ?_); (case side1 => exact cK ((Kd.V_reads' HO527.out).2.2)); (case side2 => exact (Kd.V_reads' HO527.out).2.1); (case side3 => exact cK ((Kd.V_reads' HO534.out).2.2)); (case side4 => exact (Kd.V_reads' HO534.out).2.1); rintro e w' ⟨rfl, ⟨nd, rfl⟩⟩; (try first | exact ⟨rfl, _, World.drewN_drewN _ _ _⟩ | exact ⟨rfl, _, Eq.trans (World.drewN_drewN _ _ _) (congrArg (World.drewN _) (Nat.add_assoc _ _ _))⟩))); try go_wp2_with (first | (go_at_call 20; (with_reducible refine (quaerelaw0_SameInts.calls k3 _ _ y523 _ _ y530 false _ ?side1 ?side2 ?side3 ?side4 A33.out).mono ?_); (case side1 => exact cK ((Kd.V_reads' HO527.out).2.2)); (case side2 => exact (Kd.V_reads' HO527.out).2.1); (case side3 => exact cK ((Kd.V_reads' HO534.out).2.2)); (case side4 => exact (Kd.V_reads' HO534.out).2.1); rintro e w' ⟨rfl, ⟨nd, rfl⟩⟩; (try first | exact ⟨rfl, _, World.drewN_drewN _ _ _⟩ | exact ⟨rfl, _, Eq.trans (World.drewN_drewN _ _ _) (congrArg (World.drewN _) (Nat.add_assoc _ _ _))⟩))))
                      go_roundg k3
                      case measure => have := HK1.out; have := HJ12.out; have := HK3.out; omega
                      case rel => exact ⟨(wrap64 (x8_3 + 1)), sK, H', ⟨by have := HK1.out; have := HJ12.out; have := HK3.out; omega⟩, ⟨by (with_reducible repeat (first | apply Kd.N_alloc | apply Kd.N_drewN | apply Kd.N_drew)); exact HO_5.out⟩, ⟨bB⟩⟩
                    ·rw [if_neg c32] at H
                     exact absurd H (by simp)
                   ·rw [if_neg c31] at H
                    exact absurd H (by simp)
                  ·rw [if_neg c29] at H
                   exact absurd H (by simp)
                 ·rw [if_neg c28] at H
                  exact absurd H (by simp)
                ·rw [if_neg c27] at H
                 exact absurd H (by simp)
               ·rw [if_neg c26] at H
                exact absurd H (by simp)
              ·rw [if_neg c24] at H
               exact absurd H (by simp)
             ·rw [if_neg c23] at H
              exact absurd H (by simp)
            ·rw [if_neg c22] at H
             have c22b0 : decide (x8_3 < x7_1) = false := decide_eq_false c22
             clear c22
             have H' := Aside0.mk H
             clear H
             go_wp2
             repeat (go_quiet (fail); try go_wp2)
             go_roundg k3
             case measure => have := HK1.out; have := HJ12.out; have := HK3.out; omega
             case rel => exact ⟨(wrap64 (x7_1 + 1)), sK, H', ⟨by have := HK1.out; have := HJ12.out; have := HK3.out; omega⟩, ⟨by (with_reducible repeat (first | apply Kd.N_alloc | apply Kd.N_drewN | apply Kd.N_drew)); exact HO_5.out⟩, ⟨bB⟩⟩
      ·rw [if_neg c12] at H
       have c12b0 : decide (x7_1 < (t510.length : Int)) = false := decide_eq_false c12
       clear c12
       by_cases c39 : (t510.length : Int) > 0
       ·rw [if_pos c39] at H
        have c39b0 : decide (0 < (t510.length : Int)) = true := decide_eq_true c39
        have c39b1 : decide (0 < t510.length) = true := decide_eq_true (by omega)
        clear c39
        by_cases c40 : 0 < (t510.length : Int)
        ·rw [if_pos c40] at H
         have c40b0 : decide (0 < (t510.length : Int)) = true := decide_eq_true c40
         have c40b1 : decide (0 < t510.length) = true := decide_eq_true (by omega)
         clear c40
         obtain rfl := Option.some.inj H
         have p515 : 0 ≤ (0 : Int) := (by omega)
         have q515 : 0 < (t510.length : Int) := of_decide_eq_true aK
         obtain ⟨ad515, A515_0, c515_0, e515, hx515_0, hl515_0, hi515_0⟩ := at_L3 (Kd.N_reads' HO_5.out).2.2 0 p515 q515
         cases e515
         obtain ⟨ce515, hce515, hMe515, hcc515⟩ := Kd.N_get HO_5.out [] 0 p515 (by first | exact q515 | exact of_decide_eq_true aK | (have e_ := (Kd.N_reads' HO_5.out).1; omega))
         obtain ⟨ua515_0, uc515_0, rfl, ul515_0, ge515_0⟩ := Kd.FK_slice_open hMe515
         have hv515_0 := hcc515 0 _ rfl
         rw [Nat.add_zero, show ((Kd.slice 3 (Kd.int .i64))).sz = 1 from rfl, Nat.mul_one] at hv515_0
         replace hv515_0 := Option.some.inj (hv515_0.symm.trans hx515_0)
         injection hv515_0 with hva_ hvn_ hvc_
         rw [hva_] at ge515_0
         rw [hvc_] at ul515_0
         have HL515_0 := Aside0.mk (show Kd.V (Kd.int .i64) 3 _ w.heap.size _ _ (rd_L3 t510 0) from Kd.V_mk ul515_0 ge515_0)
         clear hva_ hvn_ hvc_ ge515_0 ul515_0 hcc515 hce515
         have qi515 : (0 < t510.length) = True := eq_true (by omega)
         (try rw [show ((0 : Int)).toNat = 0 from rfl] at hx515_0)
         (try rw [Addr.add_zero'] at hx515_0)
         have HR515_0 := Aside0.mk hi515_0
         have HC515_0 := Aside0.mk hl515_0
         clear hi515_0 hl515_0
         replace p515 := eq_true p515
         replace q515 := eq_true q515
         go_wp2
         repeat (go_quiet (fail); try go_wp2)
         go_ret
         exact ⟨eK, bB⟩
        ·rw [if_neg c40] at H
         exact absurd H (by simp)
       ·rw [if_neg c39] at H
        have c39b0 : decide (0 < (t510.length : Int)) = false := decide_eq_false c39
        have c39b1 : decide (0 < t510.length) = false := decide_eq_false (by omega)
        clear c39
        obtain rfl := Option.some.inj H
        go_wp2
        repeat (go_quiet (fail); try go_wp2)
        go_ret
        exact ⟨eK, bB⟩
   ·rw [if_neg c8] at H
    have c8b0 : ((t510.length : Int) == (l1.length : Int)) = false := beq_eq_false_iff_ne.mpr c8
    have c8b1 : ((t510.length : Int) != (l1.length : Int)) = true := bne_iff_ne.mpr c8
    have c8b2 : (t510.length == l1.length) = false := by first | simpa using c8 | (simp at c8 ⊢; omega)
    obtain rfl := Option.some.inj H
    go_enter Tryd.func6, Tryd.ntmps6
    go_wp2_with (first | (go_at_call 16; (with_reducible refine (quaerelaw12_awake.calls (hG := gK) k  true _ A3.out).mono ?_); rintro e w41 ⟨rfl, hb⟩; have n0_ := Aside0.mk (below_step bB hb); clear HB; have HB := n0_; clear n0_; (try clear hb); (try clear hb2); (try clear hk); (try clear hi)) | (go_at_call 10; (with_reducible refine (path_Paths.calls (hG := gK) k _ _ l0 _ _ l1 t510 t513 _ ?side1 ?side2 ?side3 ?side4 A5.out).mono ?_); (case side1 => exact cK (Kd.C_below HR0.out HB.out)); (case side2 => exact HC0.out); (case side3 => exact cK (Kd.C_below HR1.out HB.out)); (case side4 => exact HC1.out); rintro e w42 ⟨v511, rfl, ho0, hb⟩; have n0_ := Aside0.mk (Kd.N_lower (Kd.N_mono (ok' := fun k_ => True) ho0 (fun k_ hk_ => trivial)) (below_size bB)); have n1_ := Aside0.mk (below_step bB hb); clear HB; have HO512 := n0_; have HB := n1_; clear n0_ n1_; (try clear hb); (try clear hb2); (try clear hk); (try clear hi); (try clear ho0)) | (go_at_call 13; (with_reducible refine (quaerelaw0_Num.calls t513 t514 _ A6.out).mono ?_); rintro e w' ⟨rfl, ⟨nd, rfl⟩⟩; (try first | exact ⟨rfl, _, World.drewN_drewN _ _ _⟩ | exact ⟨rfl, _, Eq.trans (World.drewN_drewN _ _ _) (congrArg (World.drewN _) (Nat.add_assoc _ _ _))⟩); obtain ⟨Ao43, co43, eo43⟩ := Kd.N_slice HO512.out; subst eo43))
    repeat (go_quiet (first | (go_at_call 16; (with_reducible refine (quaerelaw12_awake.calls (hG := gK) k  true _ A3.out).mono ?_); rintro e w41 ⟨rfl, hb⟩; have n0_ := Aside0.mk (below_step bB hb); clear HB; have HB := n0_; clear n0_; (try clear hb); (try clear hb2); (try clear hk); (try clear hi)) | (go_at_call 10; (with_reducible refine (path_Paths.calls (hG := gK) k _ _ l0 _ _ l1 t510 t513 _ ?side1 ?side2 ?side3 ?side4 A5.out).mono ?_); (case side1 => exact cK (Kd.C_below HR0.out HB.out)); (case side2 => exact HC0.out); (case side3 => exact cK (Kd.C_below HR1.out HB.out)); (case side4 => exact HC1.out); rintro e w42 ⟨v511, rfl, ho0, hb⟩; have n0_ := Aside0.mk (Kd.N_lower (Kd.N_mono (ok' := fun k_ => True) ho0 (fun k_ hk_ => trivial)) (below_size bB)); have n1_ := Aside0.mk (below_step bB hb); clear HB; have HO512 := n0_; have HB := n1_; clear n0_ n1_; (try clear hb); (try clear hb2); (try clear hk); (try clear hi); (try clear ho0)) | (go_at_call 13; (with_reducible refine (quaerelaw0_Num.calls t513 t514 _ A6.out).mono ?_); rintro e w' ⟨rfl, ⟨nd, rfl⟩⟩; (try first | exact ⟨rfl, _, World.drewN_drewN _ _ _⟩ | exact ⟨rfl, _, Eq.trans (World.drewN_drewN _ _ _) (congrArg (World.drewN _) (Nat.add_assoc _ _ _))⟩); obtain ⟨Ao43, co43, eo43⟩ := Kd.N_slice HO512.out; subst eo43)); try go_wp2_with (first | (go_at_call 16; (with_reducible refine (quaerelaw12_awake.calls (hG := gK) k  true _ A3.out).mono ?_); rintro e w41 ⟨rfl, hb⟩; have n0_ := Aside0.mk (below_step bB hb); clear HB; have HB := n0_; clear n0_; (try clear hb); (try clear hb2); (try clear hk); (try clear hi)) | (go_at_call 10; (with_reducible refine (path_Paths.calls (hG := gK) k _ _ l0 _ _ l1 t510 t513 _ ?side1 ?side2 ?side3 ?side4 A5.out).mono ?_); (case side1 => exact cK (Kd.C_below HR0.out HB.out)); (case side2 => exact HC0.out); (case side3 => exact cK (Kd.C_below HR1.out HB.out)); (case side4 => exact HC1.out); rintro e w42 ⟨v511, rfl, ho0, hb⟩; have n0_ := Aside0.mk (Kd.N_lower (Kd.N_mono (ok' := fun k_ => True) ho0 (fun k_ hk_ => trivial)) (below_size bB)); have n1_ := Aside0.mk (below_step bB hb); clear HB; have HO512 := n0_; have HB := n1_; clear n0_ n1_; (try clear hb); (try clear hb2); (try clear hk); (try clear hi); (try clear ho0)) | (go_at_call 13; (with_reducible refine (quaerelaw0_Num.calls t513 t514 _ A6.out).mono ?_); rintro e w' ⟨rfl, ⟨nd, rfl⟩⟩; (try first | exact ⟨rfl, _, World.drewN_drewN _ _ _⟩ | exact ⟨rfl, _, Eq.trans (World.drewN_drewN _ _ _) (congrArg (World.drewN _) (Nat.add_assoc _ _ _))⟩); obtain ⟨Ao43, co43, eo43⟩ := Kd.N_slice HO512.out; subst eo43)))
    go_ret
    exact ⟨eK, bB⟩
  ·rw [if_neg c7] at H
   have c7b0 : (t514 == 0) = false := beq_eq_false_iff_ne.mpr c7
   have c7b1 : (t514 != 0) = true := bne_iff_ne.mpr c7
   obtain rfl := Option.some.inj H
   go_enter Tryd.func6, Tryd.ntmps6
   go_wp2_with (first | (go_at_call 16; (with_reducible refine (quaerelaw12_awake.calls (hG := gK) k  true _ A3.out).mono ?_); rintro e w44 ⟨rfl, hb⟩; have n0_ := Aside0.mk (below_step bB hb); clear HB; have HB := n0_; clear n0_; (try clear hb); (try clear hb2); (try clear hk); (try clear hi)) | (go_at_call 10; (with_reducible refine (path_Paths.calls (hG := gK) k _ _ l0 _ _ l1 t510 t513 _ ?side1 ?side2 ?side3 ?side4 A5.out).mono ?_); (case side1 => exact cK (Kd.C_below HR0.out HB.out)); (case side2 => exact HC0.out); (case side3 => exact cK (Kd.C_below HR1.out HB.out)); (case side4 => exact HC1.out); rintro e w45 ⟨v511, rfl, ho0, hb⟩; have n0_ := Aside0.mk (Kd.N_lower (Kd.N_mono (ok' := fun k_ => True) ho0 (fun k_ hk_ => trivial)) (below_size bB)); have n1_ := Aside0.mk (below_step bB hb); clear HB; have HO512 := n0_; have HB := n1_; clear n0_ n1_; (try clear hb); (try clear hb2); (try clear hk); (try clear hi); (try clear ho0)) | (go_at_call 13; (with_reducible refine (quaerelaw0_Num.calls t513 t514 _ A6.out).mono ?_); rintro e w' ⟨rfl, ⟨nd, rfl⟩⟩; (try first | exact ⟨rfl, _, World.drewN_drewN _ _ _⟩ | exact ⟨rfl, _, Eq.trans (World.drewN_drewN _ _ _) (congrArg (World.drewN _) (Nat.add_assoc _ _ _))⟩); obtain ⟨Ao46, co46, eo46⟩ := Kd.N_slice HO512.out; subst eo46))
   repeat (go_quiet (first | (go_at_call 16; (with_reducible refine (quaerelaw12_awake.calls (hG := gK) k  true _ A3.out).mono ?_); rintro e w44 ⟨rfl, hb⟩; have n0_ := Aside0.mk (below_step bB hb); clear HB; have HB := n0_; clear n0_; (try clear hb); (try clear hb2); (try clear hk); (try clear hi)) | (go_at_call 10; (with_reducible refine (path_Paths.calls (hG := gK) k _ _ l0 _ _ l1 t510 t513 _ ?side1 ?side2 ?side3 ?side4 A5.out).mono ?_); (case side1 => exact cK (Kd.C_below HR0.out HB.out)); (case side2 => exact HC0.out); (case side3 => exact cK (Kd.C_below HR1.out HB.out)); (case side4 => exact HC1.out); rintro e w45 ⟨v511, rfl, ho0, hb⟩; have n0_ := Aside0.mk (Kd.N_lower (Kd.N_mono (ok' := fun k_ => True) ho0 (fun k_ hk_ => trivial)) (below_size bB)); have n1_ := Aside0.mk (below_step bB hb); clear HB; have HO512 := n0_; have HB := n1_; clear n0_ n1_; (try clear hb); (try clear hb2); (try clear hk); (try clear hi); (try clear ho0)) | (go_at_call 13; (with_reducible refine (quaerelaw0_Num.calls t513 t514 _ A6.out).mono ?_); rintro e w' ⟨rfl, ⟨nd, rfl⟩⟩; (try first | exact ⟨rfl, _, World.drewN_drewN _ _ _⟩ | exact ⟨rfl, _, Eq.trans (World.drewN_drewN _ _ _) (congrArg (World.drewN _) (Nat.add_assoc _ _ _))⟩); obtain ⟨Ao46, co46, eo46⟩ := Kd.N_slice HO512.out; subst eo46)); try go_wp2_with (first | (go_at_call 16; (with_reducible refine (quaerelaw12_awake.calls (hG := gK) k  true _ A3.out).mono ?_); rintro e w44 ⟨rfl, hb⟩; have n0_ := Aside0.mk (below_step bB hb); clear HB; have HB := n0_; clear n0_; (try clear hb); (try clear hb2); (try clear hk); (try clear hi)) | (go_at_call 10; (with_reducible refine (path_Paths.calls (hG := gK) k _ _ l0 _ _ l1 t510 t513 _ ?side1 ?side2 ?side3 ?side4 A5.out).mono ?_); (case side1 => exact cK (Kd.C_below HR0.out HB.out)); (case side2 => exact HC0.out); (case side3 => exact cK (Kd.C_below HR1.out HB.out)); (case side4 => exact HC1.out); rintro e w45 ⟨v511, rfl, ho0, hb⟩; have n0_ := Aside0.mk (Kd.N_lower (Kd.N_mono (ok' := fun k_ => True) ho0 (fun k_ hk_ => trivial)) (below_size bB)); have n1_ := Aside0.mk (below_step bB hb); clear HB; have HO512 := n0_; have HB := n1_; clear n0_ n1_; (try clear hb); (try clear hb2); (try clear hk); (try clear hi); (try clear ho0)) | (go_at_call 13; (with_reducible refine (quaerelaw0_Num.calls t513 t514 _ A6.out).mono ?_); rintro e w' ⟨rfl, ⟨nd, rfl⟩⟩; (try first | exact ⟨rfl, _, World.drewN_drewN _ _ _⟩ | exact ⟨rfl, _, Eq.trans (World.drewN_drewN _ _ _) (congrArg (World.drewN _) (Nat.add_assoc _ _ _))⟩); obtain ⟨Ao46, co46, eo46⟩ := Kd.N_slice HO512.out; subst eo46)))
   go_ret
   exact ⟨eK, bB⟩
 ·replace c4 := Bool.eq_false_iff.mpr c4
  subst c4
  have H1 : (some false) = some r := by rw [if_neg (show ¬ (false = true) by decide)] at H; exact H
  clear H
  have H := H1
  clear H1
  obtain rfl := Option.some.inj H
  go_enter Tryd.func6, Tryd.ntmps6
  go_wp2_with (first | (go_at_call 16; (with_reducible refine (quaerelaw12_awake.calls (hG := gK) k  false _ A3.out).mono ?_); rintro e w47 ⟨rfl, hb⟩; have n0_ := Aside0.mk (below_step bB hb); clear HB; have HB := n0_; clear n0_; (try clear hb); (try clear hb2); (try clear hk); (try clear hi)))
  repeat (go_quiet (first | (go_at_call 16; (with_reducible refine (quaerelaw12_awake.calls (hG := gK) k  false _ A3.out).mono ?_); rintro e w47 ⟨rfl, hb⟩; have n0_ := Aside0.mk (below_step bB hb); clear HB; have HB := n0_; clear n0_; (try clear hb); (try clear hb2); (try clear hk); (try clear hi))); try go_wp2_with (first | (go_at_call 16; (with_reducible refine (quaerelaw12_awake.calls (hG := gK) k  false _ A3.out).mono ?_); rintro e w47 ⟨rfl, hb⟩; have n0_ := Aside0.mk (below_step bB hb); clear HB; have HB := n0_; clear n0_; (try clear hb); (try clear hb2); (try clear hk); (try clear hi))))
  go_ret
  exact ⟨eK, bB⟩

end Go.Proofs.YteffiodbflmfkaaDoor.PP
