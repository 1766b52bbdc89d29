-- written by a program of this session's (wip/tools/pp.py), after the kit's print
import Derived.Test.YtaegdhpcnpojnaaDoorPUx0
import Derived.Test.YtaegdhpcnpojnaaDoorPUx4
import Derived.Test.YtaegdhpcnpojnaaDoorPUx12
import Derived.Test.YtaegdhpcnpojnaaDoorPUx15
import Derived.Test.YtaegdhpcnpojnaaDoorPUx21
namespace Go.Proofs.YtaegdhpcnpojnaaDoor.PU
open Go.RowKit Go.Proofs.YtaegdhpcnpojnaaDoorW.PrintWords Go.Proofs.YtaegdhpcnpojnaaDoorW.PrintLast Go.Proofs.YtaegdhpcnpojnaaDoorW.PrintMore
attribute [local go_sem] jump_ret max2_int min2_int max_two min_two max_three min_three max_four min_four   -- for this text's walks alone
set_option linter.unusedVariables false
set_option linter.unusedSimpArgs false

/-! ### quaerelaw4_UnifyMade: function 7 -/
mutual
noncomputable def quaerelaw4_UnifyMade.l0 : Nat → List (S66) → List (S41) → List Int → List Int → Int → Option (Bool)
 | 0, _, _, _, _, _ => none
 | k + 1, x0, x1, x2, x7, x9 => if x9 < (x1.length : Int) then (quaerelaw4_UnifyMade.l1 k x0 x1 x2 x7 x9 0) else ((unify_Unify.f x0 x2 x7).bind fun bt375 => ((quaerelaw0_Num.f bt375.2.2).bind fun t380 => (if t380 = 0 then (quaerelaw4_UnifyMade.j2 k x0 x2 x7 bt375.1 (!bt375.2.1)) else (quaerelaw4_UnifyMade.j2 k x0 x2 x7 bt375.1 true))))
noncomputable def quaerelaw4_UnifyMade.l1 : Nat → List (S66) → List (S41) → List Int → List Int → Int → Int → Option (Bool)
 | 0, _, _, _, _, _, _ => none
 | k + 1, x0, x1, x2, x7, x9, x10 => if x10 < (x7.length : Int) then (if 0 ≤ x10 then (if 0 ≤ x9 then (if x9 < (x1.length : Int) then (if (rd x7 x10) = (wrap64 ((-1) - ((rd_T41 x1 x9).f0))) then (some true) else (quaerelaw4_UnifyMade.l1 k x0 x1 x2 x7 x9 (wrap64 (x10 + 1)))) else (none)) else (none)) else (none)) else (quaerelaw4_UnifyMade.l0 k x0 x1 x2 x7 (wrap64 (x9 + 1)))
noncomputable def quaerelaw4_UnifyMade.j2 : Nat → List (S66) → List Int → List Int → List (S41) → Bool → Option (Bool)
 | 0, _, _, _, _, _ => none
 | k + 1, x0, x2, x7, x11, x67 => if x67 = true then (some false) else ((bind_Apply.f k x0 x11 x2).bind fun bt381 => ((bind_Apply.f k x0 x11 x7).bind fun bt385 => ((quaerelaw0_Num.f bt381.2).bind fun t389 => ((quaerelaw0_Num.f bt385.2).bind fun t390 => (if t389 = t390 then ((quaerelaw0_SameInts.f k bt381.1 bt385.1).bind fun t391 => (some t391)) else (some false))))))
end
noncomputable def quaerelaw4_UnifyMade.f (k : Nat) (l0 : List (S66)) (l1 : List (S41)) (l2 : List Int) : Option (Bool) := (quaerelaw4_awake.f k).bind fun t367 => (if t367 = true then ((bind_Apply.f k l0 l1 l2).bind fun bt368 => ((quaerelaw0_Num.f bt368.2).bind fun t372 => (if t372 = 0 then (quaerelaw4_UnifyMade.l0 k l0 l1 l2 bt368.1 0) else (some true)))) else (some false))
theorem quaerelaw4_UnifyMade.mono_l : ∀ k, (∀ y0 y1 y2 y3 y4, LeO (quaerelaw4_UnifyMade.l0 k y0 y1 y2 y3 y4) (quaerelaw4_UnifyMade.l0 (k + 1) y0 y1 y2 y3 y4)) ∧ (∀ y0 y1 y2 y3 y4 y5, LeO (quaerelaw4_UnifyMade.l1 k y0 y1 y2 y3 y4 y5) (quaerelaw4_UnifyMade.l1 (k + 1) y0 y1 y2 y3 y4 y5)) ∧ (∀ y0 y1 y2 y3 y4, LeO (quaerelaw4_UnifyMade.j2 k y0 y1 y2 y3 y4) (quaerelaw4_UnifyMade.j2 (k + 1) y0 y1 y2 y3 y4))
 | 0 => ⟨fun _ _ _ _ _ r h => by simp [quaerelaw4_UnifyMade.l0] at h, fun _ _ _ _ _ _ r h => by simp [quaerelaw4_UnifyMade.l1] at h, fun _ _ _ _ _ r h => by simp [quaerelaw4_UnifyMade.j2] at h⟩
 | k + 1 => by
  obtain ⟨ih0, ih1, ih2⟩ := quaerelaw4_UnifyMade.mono_l k
  refine ⟨?_, ?_, ?_⟩
  ·intro y0 y1 y2 y3 y4
   unfold quaerelaw4_UnifyMade.l0
   repeat' first
   | (with_reducible exact ih0 _ _ _ _ _)
   | (with_reducible exact ih1 _ _ _ _ _ _)
   | (with_reducible exact ih2 _ _ _ _ _)
   | (with_reducible exact bind_Apply.mono _ _ _ _)
   | (with_reducible exact quaerelaw0_SameInts.mono _ _ _)
   | (with_reducible exact quaerelaw4_awake.mono _)
   | (with_reducible exact LeO.refl _)
   | (with_reducible exact LeO.none _)
   | (with_reducible refine LeO.ite ?_ ?_)
   | (with_reducible refine LeO.bind ?_ (fun _ => ?_))
   | exact ih0 _ _ _ _ _
   | exact ih1 _ _ _ _ _ _
   | exact ih2 _ _ _ _ _
   | exact bind_Apply.mono _ _ _ _
   | exact quaerelaw0_SameInts.mono _ _ _
   | exact quaerelaw4_awake.mono _
   | exact LeO.none _
   | refine LeO.ite ?_ ?_
   | refine LeO.bind ?_ (fun _ => ?_)
  ·intro y0 y1 y2 y3 y4 y5
   unfold quaerelaw4_UnifyMade.l1
   repeat' first
   | (with_reducible exact ih0 _ _ _ _ _)
   | (with_reducible exact ih1 _ _ _ _ _ _)
   | (with_reducible exact ih2 _ _ _ _ _)
   | (with_reducible exact bind_Apply.mono _ _ _ _)
   | (with_reducible exact quaerelaw0_SameInts.mono _ _ _)
   | (with_reducible exact quaerelaw4_awake.mono _)
   | (with_reducible exact LeO.refl _)
   | (with_reducible exact LeO.none _)
   | (with_reducible refine LeO.ite ?_ ?_)
   | (with_reducible refine LeO.bind ?_ (fun _ => ?_))
   | exact ih0 _ _ _ _ _
   | exact ih1 _ _ _ _ _ _
   | exact ih2 _ _ _ _ _
   | exact bind_Apply.mono _ _ _ _
   | exact quaerelaw0_SameInts.mono _ _ _
   | exact quaerelaw4_awake.mono _
   | exact LeO.none _
   | refine LeO.ite ?_ ?_
   | refine LeO.bind ?_ (fun _ => ?_)
  ·intro y0 y1 y2 y3 y4
   unfold quaerelaw4_UnifyMade.j2
   repeat' first
   | (with_reducible exact ih0 _ _ _ _ _)
   | (with_reducible exact ih1 _ _ _ _ _ _)
   | (with_reducible exact ih2 _ _ _ _ _)
   | (with_reducible exact bind_Apply.mono _ _ _ _)
   | (with_reducible exact quaerelaw0_SameInts.mono _ _ _)
   | (with_reducible exact quaerelaw4_awake.mono _)
   | (with_reducible exact LeO.refl _)
   | (with_reducible exact LeO.none _)
   | (with_reducible refine LeO.ite ?_ ?_)
   | (with_reducible refine LeO.bind ?_ (fun _ => ?_))
   | exact ih0 _ _ _ _ _
   | exact ih1 _ _ _ _ _ _
   | exact ih2 _ _ _ _ _
   | exact bind_Apply.mono _ _ _ _
   | exact quaerelaw0_SameInts.mono _ _ _
   | exact quaerelaw4_awake.mono _
   | exact LeO.none _
   | refine LeO.ite ?_ ?_
   | refine LeO.bind ?_ (fun _ => ?_)
theorem quaerelaw4_UnifyMade.mono : ∀ a0 a1 a2 k, LeO (quaerelaw4_UnifyMade.f k a0 a1 a2) (quaerelaw4_UnifyMade.f (k + 1) a0 a1 a2) := by
 intro a0 a1 a2 k
 obtain ⟨ih0, ih1, ih2⟩ := quaerelaw4_UnifyMade.mono_l k
 unfold quaerelaw4_UnifyMade.f
 repeat' first
   | (with_reducible exact ih0 _ _ _ _ _)
   | (with_reducible exact ih1 _ _ _ _ _ _)
   | (with_reducible exact ih2 _ _ _ _ _)
   | (with_reducible exact bind_Apply.mono _ _ _ _)
   | (with_reducible exact quaerelaw0_SameInts.mono _ _ _)
   | (with_reducible exact quaerelaw4_awake.mono _)
   | (with_reducible exact LeO.refl _)
   | (with_reducible exact LeO.none _)
   | (with_reducible refine LeO.ite ?_ ?_)
   | (with_reducible refine LeO.bind ?_ (fun _ => ?_))
   | exact ih0 _ _ _ _ _
   | exact ih1 _ _ _ _ _ _
   | exact ih2 _ _ _ _ _
   | exact bind_Apply.mono _ _ _ _
   | exact quaerelaw0_SameInts.mono _ _ _
   | exact quaerelaw4_awake.mono _
   | exact LeO.none _
   | refine LeO.ite ?_ ?_
   | refine LeO.bind ?_ (fun _ => ?_)
set_option maxHeartbeats 8000000 in
set_option maxRecDepth 100000 in
theorem quaerelaw4_UnifyMade.calls (k : Nat) (A0 : Option Addr) (c0 : Nat) (l0 : List (S66)) (A1 : Option Addr) (c1 : Nat) (l1 : List (S41)) (A2 : Option Addr) (c2 : Nat) (l2 : List Int) (r : Bool) (w : World) (hr0 : Kd.C k66 w A0 l0.length l0) (hc0 : l0.length ≤ c0) (hr1 : Kd.C k41 w A1 l1.length l1) (hc1 : l1.length ≤ c1) (hr2 : Kd.C (Kd.int .i64) w A2 l2.length l2) (hc2 : l2.length ≤ c2) (h : quaerelaw4_UnifyMade.f k l0 l1 l2 = some r) (hG : Glob w) :
  Calls Tryd.prog 7 #[.slice A0 l0.length c0, .slice A1 l1.length c1, .slice A2 l2.length c2] w fun e w' => e = .returned (.bool r) ∧ Below w.heap.size w w' := by
 have HR0 := Aside0.mk hr0
 have HC0 := Aside0.mk hc0
 clear hr0 hc0
 have HR1 := Aside0.mk hr1
 have HC1 := Aside0.mk hc1
 clear hr1 hc1
 have HR2 := Aside0.mk hr2
 have HC2 := Aside0.mk hc2
 clear hr2 hc2
 have HB := Aside0.mk (Below.refl w.heap.size w)
 have H : ((quaerelaw4_awake.f k).bind fun t367 => (if t367 = true then ((bind_Apply.f k l0 l1 l2).bind fun bt368 => ((quaerelaw0_Num.f bt368.2).bind fun t372 => (if t372 = 0 then (quaerelaw4_UnifyMade.l0 k l0 l1 l2 bt368.1 0) else (some true)))) else (some false))) = some r := h
 clear h
 replace H := Option.bind_eq_some_iff.mp H
 obtain ⟨t367, A40, H⟩ := H
 replace H : (if t367 = true then ((bind_Apply.f k l0 l1 l2).bind fun bt368 => ((quaerelaw0_Num.f bt368.2).bind fun t372 => (if t372 = 0 then (quaerelaw4_UnifyMade.l0 k l0 l1 l2 bt368.1 0) else (some true)))) else (some false)) = some r := H
 have A4 := Aside0.mk A40
 clear A40
 by_cases c5 : t367 = true
 ·subst c5
  have H1 : ((bind_Apply.f k l0 l1 l2).bind fun bt368 => ((quaerelaw0_Num.f bt368.2).bind fun t372 => (if t372 = 0 then (quaerelaw4_UnifyMade.l0 k l0 l1 l2 bt368.1 0) else (some true)))) = some r := by rw [if_pos rfl] at H; exact H
  clear H
  have H := H1
  clear H1
  replace H := Option.bind_eq_some_iff.mp H
  obtain ⟨⟨t368, t369⟩, A60, H⟩ := H
  replace H : ((quaerelaw0_Num.f t369).bind fun t372 => (if t372 = 0 then (quaerelaw4_UnifyMade.l0 k l0 l1 l2 t368 0) else (some true))) = some r := H
  have A6 := Aside0.mk A60
  clear A60
  replace H := Option.bind_eq_some_iff.mp H
  obtain ⟨t372, A70, H⟩ := H
  replace H : (if t372 = 0 then (quaerelaw4_UnifyMade.l0 k l0 l1 l2 t368 0) else (some true)) = some r := H
  have A7 := Aside0.mk A70
  clear A70
  by_cases c8 : t372 = 0
  ·rw [if_pos c8] at H
   have c8b0 : (t372 == 0) = true := beq_iff_eq.mpr c8
   have c8b1 : (t372 != 0) = false := bne_eq_false_iff_eq.mpr c8
   clear c8
   have H' := Aside0.mk H
   clear H
   go_enter Tryd.func7, Tryd.ntmps7
   go_wp2_with (first | (go_at_call 16; (with_reducible refine (quaerelaw4_awake.calls (hG := gK) k  true _ A4.out).mono ?_); rintro e w9 ⟨rfl, hb⟩; have n0_ := Aside0.mk (below_step bB hb); clear HB; have HB := n0_; clear n0_; (try clear hb); (try clear hb2); (try clear hk); (try clear hi)) | (go_at_call 19; (with_reducible refine (bind_Apply.calls (hG := gK) k _ _ l0 _ _ l1 _ _ l2 t368 t369 _ ?side1 ?side2 ?side3 ?side4 ?side5 ?side6 A6.out).mono ?_); (case side1 => exact cK (Kd.C_below HR0.out HB.out)); (case side2 => exact HC0.out); (case side3 => exact cK (Kd.C_below HR1.out HB.out)); (case side4 => exact HC1.out); (case side5 => exact cK (Kd.C_below HR2.out HB.out)); (case side6 => exact HC2.out); rintro e w10 ⟨v370, rfl, ho0, hb⟩; have n0_ := Aside0.mk (Kd.R_lower ho0 (below_size bB)); have n1_ := Aside0.mk (below_step bB hb); clear HB; have HO371 := n0_; have HB := n1_; clear n0_ n1_; (try clear hb); (try clear hb2); (try clear hk); (try clear hi); (try clear ho0)) | (go_at_call 13; (with_reducible refine (quaerelaw0_Num.calls t369 t372 _ A7.out).mono ?_); rintro e w' ⟨rfl, ⟨nd, rfl⟩⟩; (try first | exact ⟨rfl, _, World.drewN_drewN _ _ _⟩ | exact ⟨rfl, _, Eq.trans (World.drewN_drewN _ _ _) (congrArg (World.drewN _) (Nat.add_assoc _ _ _))⟩)))
   repeat (go_quiet (first | (go_at_call 16; (with_reducible refine (quaerelaw4_awake.calls (hG := gK) k  true _ A4.out).mono ?_); rintro e w9 ⟨rfl, hb⟩; have n0_ := Aside0.mk (below_step bB hb); clear HB; have HB := n0_; clear n0_; (try clear hb); (try clear hb2); (try clear hk); (try clear hi)) | (go_at_call 19; (with_reducible refine (bind_Apply.calls (hG := gK) k _ _ l0 _ _ l1 _ _ l2 t368 t369 _ ?side1 ?side2 ?side3 ?side4 ?side5 ?side6 A6.out).mono ?_); (case side1 => exact cK (Kd.C_below HR0.out HB.out)); (case side2 => exact HC0.out); (case side3 => exact cK (Kd.C_below HR1.out HB.out)); (case side4 => exact HC1.out); (case side5 => exact cK (Kd.C_below HR2.out HB.out)); (case side6 => exact HC2.out); rintro e w10 ⟨v370, rfl, ho0, hb⟩; have n0_ := Aside0.mk (Kd.R_lower ho0 (below_size bB)); have n1_ := Aside0.mk (below_step bB hb); clear HB; have HO371 := n0_; have HB := n1_; clear n0_ n1_; (try clear hb); (try clear hb2); (try clear hk); (try clear hi); (try clear ho0)) | (go_at_call 13; (with_reducible refine (quaerelaw0_Num.calls t369 t372 _ A7.out).mono ?_); rintro e w' ⟨rfl, ⟨nd, rfl⟩⟩; (try first | exact ⟨rfl, _, World.drewN_drewN _ _ _⟩ | exact ⟨rfl, _, Eq.trans (World.drewN_drewN _ _ _) (congrArg (World.drewN _) (Nat.add_assoc _ _ _))⟩))); try go_wp2_with (first | (go_at_call 16; (with_reducible refine (quaerelaw4_awake.calls (hG := gK) k  true _ A4.out).mono ?_); rintro e w9 ⟨rfl, hb⟩; have n0_ := Aside0.mk (below_step bB hb); clear HB; have HB := n0_; clear n0_; (try clear hb); (try clear hb2); (try clear hk); (try clear hi)) | (go_at_call 19; (with_reducible refine (bind_Apply.calls (hG := gK) k _ _ l0 _ _ l1 _ _ l2 t368 t369 _ ?side1 ?side2 ?side3 ?side4 ?side5 ?side6 A6.out).mono ?_); (case side1 => exact cK (Kd.C_below HR0.out HB.out)); (case side2 => exact HC0.out); (case side3 => exact cK (Kd.C_below HR1.out HB.out)); (case side4 => exact HC1.out); (case side5 => exact cK (Kd.C_below HR2.out HB.out)); (case side6 => exact HC2.out); rintro e w10 ⟨v370, rfl, ho0, hb⟩; have n0_ := Aside0.mk (Kd.R_lower ho0 (below_size bB)); have n1_ := Aside0.mk (below_step bB hb); clear HB; have HO371 := n0_; have HB := n1_; clear n0_ n1_; (try clear hb); (try clear hb2); (try clear hk); (try clear hi); (try clear ho0)) | (go_at_call 13; (with_reducible refine (quaerelaw0_Num.calls t369 t372 _ A7.out).mono ?_); rintro e w' ⟨rfl, ⟨nd, rfl⟩⟩; (try first | exact ⟨rfl, _, World.drewN_drewN _ _ _⟩ | exact ⟨rfl, _, Eq.trans (World.drewN_drewN _ _ _) (congrArg (World.drewN _) (Nat.add_assoc _ _ _))⟩))))
   go_loopg [9] k (fun kq v9 w' => ∃ (x9_1 : Int), v9 = .int .i64 x9_1 ∧ Aside0 (quaerelaw4_UnifyMade.l0 kq l0 l1 l2 t368 x9_1 = some r) ∧ Aside0 (kq ≤ k) ∧ Aside0 (Kd.R (Kd.int .i64) 3 w' w.heap.size (fun _ => True) v370 t368) ∧ Aside0 (Below w.heap.size w w'))
   case atStart => exact ⟨(0), sK, H', ⟨Nat.le_refl _⟩, ⟨by (with_reducible repeat (first | apply Kd.R_alloc | apply Kd.R_drewN | apply Kd.R_drew)); exact HO371.out⟩, ⟨bB⟩⟩
   case round =>
    clear H'
    try clear c1
    try clear c2
    try clear p2
    try clear c5
    try clear c7
    try clear c8
    try clear c8b0
    try clear c8b1
    obtain ⟨x9_1, rfl, HA, HK1, HO_7, HB⟩ := hrel
    cases gk with
    | zero => exact absurd HA.out (by simp [quaerelaw4_UnifyMade.l0])
    | succ k1 =>
     have H := HA.out
     clear HA
     simp only [quaerelaw4_UnifyMade.l0] at H
     by_cases c11 : x9_1 < (l1.length : Int)
     ·rw [if_pos c11] at H
      have c11b0 : decide (x9_1 < (l1.length : Int)) = true := decide_eq_true c11
      clear c11
      have H' := Aside0.mk H
      clear H
      go_wp2
      repeat (go_quiet (fail); try go_wp2)
      go_loopg [10] k1 (fun kq v10 w' => ∃ (x10_2 : Int), v10 = .int .i64 x10_2 ∧ Aside0 (quaerelaw4_UnifyMade.l1 kq l0 l1 l2 t368 x9_1 x10_2 = some r) ∧ Aside0 (kq ≤ k1) ∧ Aside0 (Kd.R (Kd.int .i64) 3 w' w.heap.size (fun _ => True) v370 t368) ∧ Aside0 (Below w.heap.size w w'))
      case atStart => exact ⟨(0), sK, H', ⟨Nat.le_refl _⟩, ⟨by (with_reducible repeat (first | apply Kd.R_alloc | apply Kd.R_drewN | apply Kd.R_drew)); exact HO_7.out⟩, ⟨bB⟩⟩
      case round =>
       clear H'
       try clear c1
       try clear c2
       try clear p2
       try clear c5
       try clear c7
       try clear c8
       try clear c8b0
       try clear c8b1
       try clear c11
       try clear c11b0
       try clear p2
       obtain ⟨x10_2, rfl, HA, HK2, HO_7, HB⟩ := hrel
       cases gk with
       | zero => exact absurd HA.out (by simp [quaerelaw4_UnifyMade.l1])
       | succ k2 =>
        have H := HA.out
        clear HA
        simp only [quaerelaw4_UnifyMade.l1] at H
        by_cases c12 : x10_2 < (t368.length : Int)
        ·rw [if_pos c12] at H
         have c12b0 : decide (x10_2 < (t368.length : Int)) = true := decide_eq_true c12
         clear c12
         by_cases c13 : 0 ≤ x10_2
         ·rw [if_pos c13] at H
          have c13b0 : decide (0 ≤ x10_2) = true := decide_eq_true c13
          clear c13
          by_cases c14 : 0 ≤ x9_1
          ·rw [if_pos c14] at H
           have c14b0 : decide (0 ≤ x9_1) = true := decide_eq_true c14
           clear c14
           by_cases c15 : x9_1 < (l1.length : Int)
           ·rw [if_pos c15] at H
            have c15b0 : decide (x9_1 < (l1.length : Int)) = true := decide_eq_true c15
            clear c15
            by_cases c16 : (rd t368 x10_2) = (wrap64 ((-1) - ((rd_T41 l1 x9_1).f0)))
            ·rw [if_pos c16] at H
             have c16b0 : ((rd t368 x10_2) == (wrap64 ((-1) - ((rd_T41 l1 x9_1).f0)))) = true := beq_iff_eq.mpr c16
             have c16b1 : ((rd t368 x10_2) != (wrap64 ((-1) - ((rd_T41 l1 x9_1).f0)))) = false := bne_eq_false_iff_eq.mpr c16
             clear c16
             obtain rfl := Option.some.inj H
             obtain ⟨Ao17, co17, eo17⟩ := Kd.R_slice HO_7.out
             subst eo17
             have p373 : 0 ≤ (x10_2 : Int) := of_decide_eq_true aK
             have q373 : x10_2 < (t368.length : Int) := of_decide_eq_true aK
             obtain ⟨ad373, e373, hx373_0⟩ := Kd.at_int (Kd.R_reads' HO_7.out).2.2 x10_2 p373 q373
             cases e373
             replace p373 := eq_true p373
             replace q373 := eq_true q373
             have p374 : 0 ≤ (x9_1 : Int) := of_decide_eq_true aK
             have q374 : x9_1 < (l1.length : Int) := of_decide_eq_true aK
             obtain ⟨ad374, A374_1, c374_1, e374, hx374_0, hx374_1, hl374_1, hi374_1⟩ := at_T41 HR1.out x9_1 p374 q374
             cases e374
             replace hx374_0 := (HB.out.cell (World.block_lt_of_cell? w _ hx374_0)).trans hx374_0
             replace hx374_1 := (HB.out.cell (World.block_lt_of_cell? w _ hx374_1)).trans hx374_1
             have HR374_1 := Aside0.mk hi374_1
             have HC374_1 := Aside0.mk hl374_1
             clear hi374_1 hl374_1
             replace p374 := eq_true p374
             replace q374 := eq_true q374
             go_wp2
             repeat (go_quiet (fail); try go_wp2)
             go_ret
             exact ⟨eK, bB⟩
            ·rw [if_neg c16] at H
             have c16b0 : ((rd t368 x10_2) == (wrap64 ((-1) - ((rd_T41 l1 x9_1).f0)))) = false := beq_eq_false_iff_ne.mpr c16
             have c16b1 : ((rd t368 x10_2) != (wrap64 ((-1) - ((rd_T41 l1 x9_1).f0)))) = true := bne_iff_ne.mpr c16
             have H' := Aside0.mk H
             clear H
             obtain ⟨Ao18, co18, eo18⟩ := Kd.R_slice HO_7.out
             subst eo18
             have p373 : 0 ≤ (x10_2 : Int) := of_decide_eq_true aK
             have q373 : x10_2 < (t368.length : Int) := of_decide_eq_true aK
             obtain ⟨ad373, e373, hx373_0⟩ := Kd.at_int (Kd.R_reads' HO_7.out).2.2 x10_2 p373 q373
             cases e373
             replace p373 := eq_true p373
             replace q373 := eq_true q373
             have p374 : 0 ≤ (x9_1 : Int) := of_decide_eq_true aK
             have q374 : x9_1 < (l1.length : Int) := of_decide_eq_true aK
             obtain ⟨ad374, A374_1, c374_1, e374, hx374_0, hx374_1, hl374_1, hi374_1⟩ := at_T41 HR1.out x9_1 p374 q374
             cases e374
             replace hx374_0 := (HB.out.cell (World.block_lt_of_cell? w _ hx374_0)).trans hx374_0
             replace hx374_1 := (HB.out.cell (World.block_lt_of_cell? w _ hx374_1)).trans hx374_1
             have HR374_1 := Aside0.mk hi374_1
             have HC374_1 := Aside0.mk hl374_1
             clear hi374_1 hl374_1
             replace p374 := eq_true p374
             replace q374 := eq_true q374
             go_wp2
             repeat (go_quiet (fail); try go_wp2)
             go_roundg k2
             case measure => have := HK1.out; have := HK2.out; omega
             case rel => exact ⟨(wrap64 (x10_2 + 1)), sK, H', ⟨by have := HK1.out; have := HK2.out; omega⟩, ⟨by (with_reducible repeat (first | apply Kd.R_alloc | apply Kd.R_drewN | apply Kd.R_drew)); exact HO_7.out⟩, ⟨bB⟩⟩
           ·rw [if_neg c15] at H
            exact absurd H (by simp)
          ·rw [if_neg c14] at H
           exact absurd H (by simp)
         ·rw [if_neg c13] at H
          exact absurd H (by simp)
        ·rw [if_neg c12] at H
         have c12b0 : decide (x10_2 < (t368.length : Int)) = false := decide_eq_false c12
         clear c12
         have H' := Aside0.mk H
         clear H
         obtain ⟨Ao19, co19, eo19⟩ := Kd.R_slice HO_7.out
         subst eo19
         go_wp2
         repeat (go_quiet (fail); try go_wp2)
         go_roundg k2
         case measure => have := HK1.out; have := HK2.out; omega
         case rel => exact ⟨(wrap64 (x9_1 + 1)), sK, H', ⟨by have := HK1.out; have := HK2.out; omega⟩, ⟨by (with_reducible repeat (first | apply Kd.R_alloc | apply Kd.R_drewN | apply Kd.R_drew)); exact HO_7.out⟩, ⟨bB⟩⟩
     ·rw [if_neg c11] at H
      have c11b0 : decide (x9_1 < (l1.length : Int)) = false := decide_eq_false c11
      clear c11
      replace H := Option.bind_eq_some_iff.mp H
      obtain ⟨⟨t375, t376, t377⟩, A200, H⟩ := H
      replace H : ((quaerelaw0_Num.f t377).bind fun t380 => (if t380 = 0 then (quaerelaw4_UnifyMade.j2 k1 l0 l2 t368 t375 (!t376)) else (quaerelaw4_UnifyMade.j2 k1 l0 l2 t368 t375 true))) = some r := H
      have A20 := Aside0.mk A200
      clear A200
      have HC21 := Aside0.mk H
      clear H
      obtain ⟨Ao22, co22, eo22⟩ := Kd.R_slice HO_7.out
      subst eo22
      go_upto_region 15 with (first | (go_at_call 10; (with_reducible refine (unify_Unify.calls (hG := gK) _ _ l0 _ _ l2 _ _ t368 t375 t376 t377 _ ?side1 ?side2 ?side3 ?side4 ?side5 ?side6 A20.out).mono ?_); (case side1 => exact cK (Kd.C_below HR0.out HB.out)); (case side2 => exact HC0.out); (case side3 => exact cK (Kd.C_below HR2.out HB.out)); (case side4 => exact HC2.out); (case side5 => exact cK ((Kd.R_reads' HO_7.out).2.2)); (case side6 => exact (Kd.R_reads' HO_7.out).2.1); rintro e w23 ⟨v378, rfl, ho0, hb⟩; have n0_ := Aside0.mk (Kd.R_below (rK HO_7) hb); have n1_ := Aside0.mk (Kd.S_lower (Kd.S_new' ho0 (Kd.R_lt (rK HO_7))) (below_size bB)); have n2_ := Aside0.mk (below_step bB hb); clear HO_7; clear HB; have HO_7 := n0_; have HO379 := n1_; have HB := n2_; clear n0_ n1_ n2_; (try clear hb); (try clear hb2); (try clear hk); (try clear hi); (try clear ho0)))
      repeat (go_quiet (first | (go_at_call 10; (with_reducible refine (unify_Unify.calls (hG := gK) _ _ l0 _ _ l2 _ _ t368 t375 t376 t377 _ ?side1 ?side2 ?side3 ?side4 ?side5 ?side6 A20.out).mono ?_); (case side1 => exact cK (Kd.C_below HR0.out HB.out)); (case side2 => exact HC0.out); (case side3 => exact cK (Kd.C_below HR2.out HB.out)); (case side4 => exact HC2.out); (case side5 => exact cK ((Kd.R_reads' HO_7.out).2.2)); (case side6 => exact (Kd.R_reads' HO_7.out).2.1); rintro e w23 ⟨v378, rfl, ho0, hb⟩; have n0_ := Aside0.mk (Kd.R_below (rK HO_7) hb); have n1_ := Aside0.mk (Kd.S_lower (Kd.S_new' ho0 (Kd.R_lt (rK HO_7))) (below_size bB)); have n2_ := Aside0.mk (below_step bB hb); clear HO_7; clear HB; have HO_7 := n0_; have HO379 := n1_; have HB := n2_; clear n0_ n1_ n2_; (try clear hb); (try clear hb2); (try clear hk); (try clear hi); (try clear ho0))); go_upto_region 15 with (first | (go_at_call 10; (with_reducible refine (unify_Unify.calls (hG := gK) _ _ l0 _ _ l2 _ _ t368 t375 t376 t377 _ ?side1 ?side2 ?side3 ?side4 ?side5 ?side6 A20.out).mono ?_); (case side1 => exact cK (Kd.C_below HR0.out HB.out)); (case side2 => exact HC0.out); (case side3 => exact cK (Kd.C_below HR2.out HB.out)); (case side4 => exact HC2.out); (case side5 => exact cK ((Kd.R_reads' HO_7.out).2.2)); (case side6 => exact (Kd.R_reads' HO_7.out).2.1); rintro e w23 ⟨v378, rfl, ho0, hb⟩; have n0_ := Aside0.mk (Kd.R_below (rK HO_7) hb); have n1_ := Aside0.mk (Kd.S_lower (Kd.S_new' ho0 (Kd.R_lt (rK HO_7))) (below_size bB)); have n2_ := Aside0.mk (below_step bB hb); clear HO_7; clear HB; have HO_7 := n0_; have HO379 := n1_; have HB := n2_; clear n0_ n1_ n2_; (try clear hb); (try clear hb2); (try clear hk); (try clear hi); (try clear ho0))))
      (try simp only [Act.put, List.setIfInBounds_toArray, List.set_cons_zero, List.set_cons_succ])
      go_cut [67] (fun v67 wc => ∃ (kq : Nat) (x67_20 : Bool), v67 = .bool x67_20 ∧ Aside0 (quaerelaw4_UnifyMade.j2 kq l0 l2 t368 t375 x67_20 = some r) ∧ Aside0 (kq ≤ k1) ∧ Aside0 (Kd.R (Kd.int .i64) 3 wc w.heap.size (fun _ => True) (.slice Ao22 t368.length co22) t368) ∧ Aside0 (Kd.S k41 41 wc w.heap.size (fun k_ => some k_ ≠ ((.slice Ao22 t368.length co22) : Value).ownBlock) v378 t375) ∧ Aside0 (Below w.heap.size w wc))
      case first =>
       have H := HC21.out
       clear HC21
       replace H := Option.bind_eq_some_iff.mp H
       obtain ⟨t380, A240, H⟩ := H
       replace H : (if t380 = 0 then (quaerelaw4_UnifyMade.j2 k1 l0 l2 t368 t375 (!t376)) else (quaerelaw4_UnifyMade.j2 k1 l0 l2 t368 t375 true)) = some r := H
       have A24 := Aside0.mk A240
       clear A240
       by_cases c25 : t380 = 0
       ·rw [if_pos c25] at H
        have c25b0 : (t380 == 0) = true := beq_iff_eq.mpr c25
        have c25b1 : (t380 != 0) = false := bne_eq_false_iff_eq.mpr c25
        clear c25
        (first | rw [c25b0] | (simp only [i64_w, i32_w]; rw [c25b0]) | skip)
        have H' := Aside0.mk H
        clear H
        go_wp2_with (first | (go_at_call 13; (with_reducible refine (quaerelaw0_Num.calls t377 t380 _ A24.out).mono ?_); rintro e w' ⟨rfl, ⟨nd, rfl⟩⟩; (try first | exact ⟨rfl, _, World.drewN_drewN _ _ _⟩ | exact ⟨rfl, _, Eq.trans (World.drewN_drewN _ _ _) (congrArg (World.drewN _) (Nat.add_assoc _ _ _))⟩)))
        repeat (go_quiet (first | (go_at_call 13; (with_reducible refine (quaerelaw0_Num.calls t377 t380 _ A24.out).mono ?_); rintro e w' ⟨rfl, ⟨nd, rfl⟩⟩; (try first | exact ⟨rfl, _, World.drewN_drewN _ _ _⟩ | exact ⟨rfl, _, Eq.trans (World.drewN_drewN _ _ _) (congrArg (World.drewN _) (Nat.add_assoc _ _ _))⟩))); try go_wp2_with (first | (go_at_call 13; (with_reducible refine (quaerelaw0_Num.calls t377 t380 _ A24.out).mono ?_); rintro e w' ⟨rfl, ⟨nd, rfl⟩⟩; (try first | exact ⟨rfl, _, World.drewN_drewN _ _ _⟩ | exact ⟨rfl, _, Eq.trans (World.drewN_drewN _ _ _) (congrArg (World.drewN _) (Nat.add_assoc _ _ _))⟩))))
        go_meet
        case rel => exact ⟨_, (!t376), sK, H', ⟨by have := HK1.out; first | omega | exact Nat.le_refl _⟩, ⟨by (with_reducible repeat (first | apply Kd.R_alloc | apply Kd.R_drewN | apply Kd.R_drew)); exact HO_7.out⟩, ⟨by (with_reducible repeat (first | apply Kd.S_alloc | apply Kd.S_drewN | apply Kd.S_drew)); exact Kd.S_mono HO379.out (fun _ hk => hk.2)⟩, ⟨bB⟩⟩
       ·rw [if_neg c25] at H
        have c25b0 : (t380 == 0) = false := beq_eq_false_iff_ne.mpr c25
        have c25b1 : (t380 != 0) = true := bne_iff_ne.mpr c25
        (first | rw [c25b0] | (simp only [i64_w, i32_w]; rw [c25b0]) | skip)
        have H' := Aside0.mk H
        clear H
        go_wp2_with (first | (go_at_call 13; (with_reducible refine (quaerelaw0_Num.calls t377 t380 _ A24.out).mono ?_); rintro e w' ⟨rfl, ⟨nd, rfl⟩⟩; (try first | exact ⟨rfl, _, World.drewN_drewN _ _ _⟩ | exact ⟨rfl, _, Eq.trans (World.drewN_drewN _ _ _) (congrArg (World.drewN _) (Nat.add_assoc _ _ _))⟩)))
        repeat (go_quiet (first | (go_at_call 13; (with_reducible refine (quaerelaw0_Num.calls t377 t380 _ A24.out).mono ?_); rintro e w' ⟨rfl, ⟨nd, rfl⟩⟩; (try first | exact ⟨rfl, _, World.drewN_drewN _ _ _⟩ | exact ⟨rfl, _, Eq.trans (World.drewN_drewN _ _ _) (congrArg (World.drewN _) (Nat.add_assoc _ _ _))⟩))); try go_wp2_with (first | (go_at_call 13; (with_reducible refine (quaerelaw0_Num.calls t377 t380 _ A24.out).mono ?_); rintro e w' ⟨rfl, ⟨nd, rfl⟩⟩; (try first | exact ⟨rfl, _, World.drewN_drewN _ _ _⟩ | exact ⟨rfl, _, Eq.trans (World.drewN_drewN _ _ _) (congrArg (World.drewN _) (Nat.add_assoc _ _ _))⟩))))
        go_meet
        case rel => exact ⟨_, (true), sK, H', ⟨by have := HK1.out; first | omega | exact Nat.le_refl _⟩, ⟨by (with_reducible repeat (first | apply Kd.R_alloc | apply Kd.R_drewN | apply Kd.R_drew)); exact HO_7.out⟩, ⟨by (with_reducible repeat (first | apply Kd.S_alloc | apply Kd.S_drewN | apply Kd.S_drew)); exact Kd.S_mono HO379.out (fun _ hk => hk.2)⟩, ⟨bB⟩⟩
      case rest =>
       clear HC21
       try clear c1
       try clear c2
       try clear p2
       try clear c3
       try clear p3
       try clear q3
       try clear hx3
       try clear c5
       try clear p6
       try clear c7
       try clear c8
       try clear c8b0
       try clear c8b1
       try clear c11
       try clear c11b0
       try clear c12
       try clear c12b0
       try clear c13
       try clear c13b0
       try clear c14
       try clear c14b0
       try clear c15
       try clear c15b0
       try clear c16
       try clear c16b0
       try clear c16b1
       try clear c25
       try clear c25b0
       try clear c25b1
       try clear hx373_0
       try clear hx374_0
       try clear hx374_1
       try clear p2
       try clear p373
       try clear p374
       try clear q373
       try clear q374
       obtain ⟨kq, x67_20, rfl, HA, HJ20, HO_7, HO_11, HB⟩ := hcut
       cases kq with
       | zero => exact absurd HA.out (by simp [quaerelaw4_UnifyMade.j2])
       | succ kj20 =>
        have H := HA.out
        clear HA
        simp only [quaerelaw4_UnifyMade.j2] at H
        by_cases c26 : x67_20 = true
        ·subst c26
         have H1 : (some false) = some r := by rw [if_pos rfl] at H; exact H
         clear H
         have H := H1
         clear H1
         obtain rfl := Option.some.inj H
         go_wp2
         repeat (go_quiet (fail); try go_wp2)
         go_ret
         exact ⟨eK, bB⟩
        ·replace c26 := Bool.eq_false_iff.mpr c26
         subst c26
         have H1 : ((bind_Apply.f kj20 l0 t375 l2).bind fun bt381 => ((bind_Apply.f kj20 l0 t375 t368).bind fun bt385 => ((quaerelaw0_Num.f bt381.2).bind fun t389 => ((quaerelaw0_Num.f bt385.2).bind fun t390 => (if t389 = t390 then ((quaerelaw0_SameInts.f kj20 bt381.1 bt385.1).bind fun t391 => (some t391)) else (some false)))))) = some r := by rw [if_neg (show ¬ (false = true) by decide)] at H; exact H
         clear H
         have H := H1
         clear H1
         replace H := Option.bind_eq_some_iff.mp H
         obtain ⟨⟨t381, t382⟩, A270, H⟩ := H
         replace H : ((bind_Apply.f kj20 l0 t375 t368).bind fun bt385 => ((quaerelaw0_Num.f t382).bind fun t389 => ((quaerelaw0_Num.f bt385.2).bind fun t390 => (if t389 = t390 then ((quaerelaw0_SameInts.f kj20 t381 bt385.1).bind fun t391 => (some t391)) else (some false))))) = some r := H
         have A27 := Aside0.mk A270
         clear A270
         replace H := Option.bind_eq_some_iff.mp H
         obtain ⟨⟨t385, t386⟩, A280, H⟩ := H
         replace H : ((quaerelaw0_Num.f t382).bind fun t389 => ((quaerelaw0_Num.f t386).bind fun t390 => (if t389 = t390 then ((quaerelaw0_SameInts.f kj20 t381 t385).bind fun t391 => (some t391)) else (some false)))) = some r := H
         have A28 := Aside0.mk A280
         clear A280
         replace H := Option.bind_eq_some_iff.mp H
         obtain ⟨t389, A290, H⟩ := H
         replace H : ((quaerelaw0_Num.f t386).bind fun t390 => (if t389 = t390 then ((quaerelaw0_SameInts.f kj20 t381 t385).bind fun t391 => (some t391)) else (some false))) = some r := H
         have A29 := Aside0.mk A290
         clear A290
         replace H := Option.bind_eq_some_iff.mp H
         obtain ⟨t390, A300, H⟩ := H
         replace H : (if t389 = t390 then ((quaerelaw0_SameInts.f kj20 t381 t385).bind fun t391 => (some t391)) else (some false)) = some r := H
         have A30 := Aside0.mk A300
         clear A300
         by_cases c31 : t389 = t390
         ·rw [if_pos c31] at H
          have c31b0 : (t389 == t390) = true := beq_iff_eq.mpr c31
          have c31b1 : (t389 != t390) = false := bne_eq_false_iff_eq.mpr c31
          clear c31
          replace H := Option.bind_eq_some_iff.mp H
          obtain ⟨t391, A320, H⟩ := H
          replace H : (some t391) = some r := H
          have A32 := Aside0.mk A320
          clear A320
          obtain rfl := Option.some.inj H
          obtain ⟨Ao33, co33, eo33⟩ := Kd.S_slice HO_11.out
          subst eo33
          go_wp2_with (first | (go_at_call 19; (with_reducible refine (bind_Apply.calls (hG := gK) kj20 _ _ l0 _ _ t375 _ _ l2 t381 t382 _ ?side1 ?side2 ?side3 ?side4 ?side5 ?side6 A27.out).mono ?_); (case side1 => exact cK (Kd.C_below HR0.out HB.out)); (case side2 => exact HC0.out); (case side3 => exact cK ((Kd.S_reads' HO_11.out).2.2)); (case side4 => exact (Kd.S_reads' HO_11.out).2.1); (case side5 => exact cK (Kd.C_below HR2.out HB.out)); (case side6 => exact HC2.out); rintro e w34 ⟨v383, rfl, ho0, hb⟩; have n0_ := Aside0.mk (Kd.R_elder' (rK HO_7) (Kd.R_base ho0) hb); have n1_ := Aside0.mk (Kd.S_elder' (by (with_reducible repeat (first | apply Kd.S_alloc | apply Kd.S_drewN | apply Kd.S_drew)); exact HO_11.out) (Kd.R_base ho0) hb); have n2_ := Aside0.mk (Kd.R_lower (Kd.R_new' ho0 (Kd.R_lt (rK HO_7))) (below_size bB)); have n3_ := Aside0.mk (below_step bB hb); clear HO_7; clear HO_11; clear HB; have HO_7 := n0_; have HO_11 := n1_; have HO384 := n2_; have HB := n3_; clear n0_ n1_ n2_ n3_; (try clear hb); (try clear hb2); (try clear hk); (try clear hi); (try clear ho0)) | (go_at_call 19; (with_reducible refine (bind_Apply.calls (hG := gK) kj20 _ _ l0 _ _ t375 _ _ t368 t385 t386 _ ?side1 ?side2 ?side3 ?side4 ?side5 ?side6 A28.out).mono ?_); (case side1 => exact cK (Kd.C_below HR0.out HB.out)); (case side2 => exact HC0.out); (case side3 => exact cK ((Kd.S_reads' HO_11.out).2.2)); (case side4 => exact (Kd.S_reads' HO_11.out).2.1); (case side5 => exact cK ((Kd.R_reads' HO_7.out).2.2)); (case side6 => exact (Kd.R_reads' HO_7.out).2.1); rintro e w35 ⟨v387, rfl, ho0, hb⟩; have n0_ := Aside0.mk (Kd.R_elder' (rK HO_7) (Kd.R_base ho0) hb); have n1_ := Aside0.mk (Kd.S_elder' (by (with_reducible repeat (first | apply Kd.S_alloc | apply Kd.S_drewN | apply Kd.S_drew)); exact HO_11.out) (Kd.R_base ho0) hb); have n2_ := Aside0.mk (Kd.R_elder' (rK HO384) (Kd.R_base ho0) hb); have n3_ := Aside0.mk (Kd.R_lower (Kd.R_new' (Kd.R_new' ho0 (Kd.R_lt (rK HO_7))) (Kd.R_lt (rK HO384))) (below_size bB)); have n4_ := Aside0.mk (below_step bB hb); clear HO_7; clear HO_11; clear HO384; clear HB; have HO_7 := n0_; have HO_11 := n1_; have HO384 := n2_; have HO388 := n3_; have HB := n4_; clear n0_ n1_ n2_ n3_ n4_; (try clear hb); (try clear hb2); (try clear hk); (try clear hi); (try clear ho0)) | (go_at_call 13; (with_reducible refine (quaerelaw0_Num.calls t382 t389 _ A29.out).mono ?_); rintro e w' ⟨rfl, ⟨nd, rfl⟩⟩; (try first | exact ⟨rfl, _, World.drewN_drewN _ _ _⟩ | exact ⟨rfl, _, Eq.trans (World.drewN_drewN _ _ _) (congrArg (World.drewN _) (Nat.add_assoc _ _ _))⟩)) | (go_at_call 13; (with_reducible refine (quaerelaw0_Num.calls t386 t390 _ A30.out).mono ?_); rintro e w' ⟨rfl, ⟨nd, rfl⟩⟩; (try first | exact ⟨rfl, _, World.drewN_drewN _ _ _⟩ | exact ⟨rfl, _, Eq.trans (World.drewN_drewN _ _ _) (congrArg (World.drewN _) (Nat.add_assoc _ _ _))⟩); obtain ⟨Ao36, co36, eo36⟩ := Kd.R_slice HO384.out; subst eo36; obtain ⟨Ao37, co37, eo37⟩ := Kd.R_slice HO388.out; subst eo37) | (go_at_call 18; (with_reducible refine (quaerelaw0_SameInts.calls kj20 _ _ t381 _ _ t385 t391 _ ?side1 ?side2 ?side3 ?side4 A32.out).mono ?_); (case side1 => exact cK ((Kd.R_reads' HO384.out).2.2)); (case side2 => exact (Kd.R_reads' HO384.out).2.1); (case side3 => exact cK ((Kd.R_reads' HO388.out).2.2)); (case side4 => exact (Kd.R_reads' HO388.out).2.1); rintro e w' ⟨rfl, ⟨nd, rfl⟩⟩; (try first | exact ⟨rfl, _, World.drewN_drewN _ _ _⟩ | exact ⟨rfl, _, Eq.trans (World.drewN_drewN _ _ _) (congrArg (World.drewN _) (Nat.add_assoc _ _ _))⟩)))
          repeat (go_quiet (first | (go_at_call 19; (with_reducible refine (bind_Apply.calls (hG := gK) kj20 _ _ l0 _ _ t375 _ _ l2 t381 t382 _ ?side1 ?side2 ?side3 ?side4 ?side5 ?side6 A27.out).mono ?_); (case side1 => exact cK (Kd.C_below HR0.out HB.out)); (case side2 => exact HC0.out); (case side3 => exact cK ((Kd.S_reads' HO_11.out).2.2)); (case side4 => exact (Kd.S_reads' HO_11.out).2.1); (case side5 => exact cK (Kd.C_below HR2.out HB.out)); (case side6 => exact HC2.out); rintro e w34 ⟨v383, rfl, ho0, hb⟩; have n0_ := Aside0.mk (Kd.R_elder' (rK HO_7) (Kd.R_base ho0) hb); have n1_ := Aside0.mk (Kd.S_elder' (by (with_reducible repeat (first | apply Kd.S_alloc | apply Kd.S_drewN | apply Kd.S_drew)); exact HO_11.out) (Kd.R_base ho0) hb); have n2_ := Aside0.mk (Kd.R_lower (Kd.R_new' ho0 (Kd.R_lt (rK HO_7))) (below_size bB)); have n3_ := Aside0.mk (below_step bB hb); clear HO_7; clear HO_11; clear HB; have HO_7 := n0_; have HO_11 := n1_; have HO384 := n2_; have HB := n3_; clear n0_ n1_ n2_ n3_; (try clear hb); (try clear hb2); (try clear hk); (try clear hi); (try clear ho0)) | (go_at_call 19; (with_reducible refine (bind_Apply.calls (hG := gK) kj20 _ _ l0 _ _ t375 _ _ t368 t385 t386 _ ?side1 ?side2 ?side3 ?side4 ?side5 ?side6 A28.out).mono ?_); (case side1 => exact cK (Kd.C_below HR0.out HB.out)); (case side2 => exact HC0.out); (case side3 => exact cK ((Kd.S_reads' HO_11.out).2.2)); (case side4 => exact (Kd.S_reads' HO_11.out).2.1); (case side5 => exact cK ((Kd.R_reads' HO_7.out).2.2)); (case side6 => exact (Kd.R_reads' HO_7.out).2.1); rintro e w35 ⟨v387, rfl, ho0, hb⟩; have n0_ := Aside0.mk (Kd.R_elder' (rK HO_7) (Kd.R_base ho0) hb); have n1_ := Aside0.mk (Kd.S_elder' (by (with_reducible repeat (first | apply Kd.S_alloc | apply Kd.S_drewN | apply Kd.S_drew)); exact HO_11.out) (Kd.R_base ho0) hb); have n2_ := Aside0.mk (Kd.R_elder' (rK HO384) (Kd.R_base ho0) hb); have n3_ := Aside0.mk (Kd.R_lower (Kd.R_new' (Kd.R_new' ho0 (Kd.R_lt (rK HO_7))) (Kd.R_lt (rK HO384))) (below_size bB)); have n4_ := Aside0.mk (below_step bB hb); clear HO_7; clear HO_11; clear HO384; clear HB; have HO_7 := n0_; have HO_11 := n1_; have HO384 := n2_; have HO388 := n3_; have HB := n4_; clear n0_ n1_ n2_ n3_ n4_; (try clear hb); (try clear hb2); (try clear hk); (try clear hi); (try clear ho0)) | (go_at_call 13; (with_reducible refine (quaerelaw0_Num.calls t382 t389 _ A29.out).mono ?_); rintro e w' ⟨rfl, ⟨nd, rfl⟩⟩; (try first | exact ⟨rfl, _, World.drewN_drewN _ _ _⟩ | exact ⟨rfl, _, Eq.trans (World.drewN_drewN _ _ _) (congrArg (World.drewN _) (Nat.add_assoc _ _ _))⟩)) | (go_at_call 13; (with_reducible refine (quaerelaw0_Num.calls t386 t390 _ A30.out).mono ?_); rintro e w' ⟨rfl, ⟨nd, rfl⟩⟩; (try first | exact ⟨rfl, _, World.drewN_drewN _ _ _⟩ | exact ⟨rfl, _, Eq.trans (World.drewN_drewN _ _ _) (congrArg (World.drewN _) (Nat.add_assoc _ _ _))⟩); obtain ⟨Ao36, co36, eo36⟩ := Kd.R_slice HO384.out; subst eo36; obtain ⟨Ao37, co37, eo37⟩ := Kd.R_slice HO388.out; subst eo37) | (go_at_call 18; (with_reducible refine (quaerelaw0_SameInts.calls kj20 _ _ t381 _ _ t385 t391 _ ?side1 ?side2 ?side3 ?side4 A32.out).mono ?_); (case side1 => exact cK ((Kd.R_reads' HO384.out).2.2)); (case side2 => exact (Kd.R_reads' HO384.out).2.1); (case side3 => exact cK ((Kd.R_reads' HO388.out).2.2)); (case side4 => exact (Kd.R_reads' HO388.out).2.1); rintro e w' ⟨rfl, ⟨nd, rfl⟩⟩; (try first | exact ⟨rfl, _, World.drewN_drewN _ _ _⟩ | exact ⟨rfl, _, Eq.trans (World.drewN_drewN _ _ _) (congrArg (World.drewN _) (Nat.add_assoc _ _ _))⟩))); try go_wp2_with (first | (go_at_call 19; (with_reducible refine (bind_Apply.calls (hG := gK) kj20 _ _ l0 _ _ t375 _ _ l2 t381 t382 _ ?side1 ?side2 ?side3 ?side4 ?side5 ?side6 A27.out).mono ?_); (case side1 => exact cK (Kd.C_below HR0.out HB.out)); (case side2 => exact HC0.out); (case side3 => exact cK ((Kd.S_reads' HO_11.out).2.2)); (case side4 => exact (Kd.S_reads' HO_11.out).2.1); (case side5 => exact cK (Kd.C_below HR2.out HB.out)); (case side6 => exact HC2.out); rintro e w34 ⟨v383, rfl, ho0, hb⟩; have n0_ := Aside0.mk (Kd.R_elder' (rK HO_7) (Kd.R_base ho0) hb); have n1_ := Aside0.mk (Kd.S_elder' (by (with_reducible repeat (first | apply Kd.S_alloc | apply Kd.S_drewN | apply Kd.S_drew)); exact HO_11.out) (Kd.R_base ho0) hb); have n2_ := Aside0.mk (Kd.R_lower (Kd.R_new' ho0 (Kd.R_lt (rK HO_7))) (below_size bB)); have n3_ := Aside0.mk (below_step bB hb); clear HO_7; clear HO_11; clear HB; have HO_7 := n0_; have HO_11 := n1_; have HO384 := n2_; have HB := n3_; clear n0_ n1_ n2_ n3_; (try clear hb); (try clear hb2); (try clear hk); (try clear hi); (try clear ho0)) | (go_at_call 19; (with_reducible refine (bind_Apply.calls (hG := gK) kj20 _ _ l0 _ _ t375 _ _ t368 t385 t386 _ ?side1 ?side2 ?side3 ?side4 ?side5 ?side6 A28.out).mono ?_); (case side1 => exact cK (Kd.C_below HR0.out HB.out)); (case side2 => exact HC0.out); (case side3 => exact cK ((Kd.S_reads' HO_11.out).2.2)); (case side4 => exact (Kd.S_reads' HO_11.out).2.1); (case side5 => exact cK ((Kd.R_reads' HO_7.out).2.2)); (case side6 => exact (Kd.R_reads' HO_7.out).2.1); rintro e w35 ⟨v387, rfl, ho0, hb⟩; have n0_ := Aside0.mk (Kd.R_elder' (rK HO_7) (Kd.R_base ho0) hb); have n1_ := Aside0.mk (Kd.S_elder' (by (with_reducible repeat (first | apply Kd.S_alloc | apply Kd.S_drewN | apply Kd.S_drew)); exact HO_11.out) (Kd.R_base ho0) hb); have n2_ := Aside0.mk (Kd.R_elder' (rK HO384) (Kd.R_base ho0) hb); have n3_ := Aside0.mk (Kd.R_lower (Kd.R_new' (Kd.R_new' ho0 (Kd.R_lt (rK HO_7))) (Kd.R_lt (rK HO384))) (below_size bB)); have n4_ := Aside0.mk (below_step bB hb); clear HO_7; clear HO_11; clear HO384; clear HB; have HO_7 := n0_; have HO_11 := n1_; have HO384 := n2_; have HO388 := n3_; have HB := n4_; clear n0_ n1_ n2_ n3_ n4_; (try clear hb); (try clear hb2); (try clear hk); (try clear hi); (try clear ho0)) | (go_at_call 13; (with_reducible refine (quaerelaw0_Num.calls t382 t389 _ A29.out).mono ?_); rintro e w' ⟨rfl, ⟨nd, rfl⟩⟩; (try first | exact ⟨rfl, _, World.drewN_drewN _ _ _⟩ | exact ⟨rfl, _, Eq.trans (World.drewN_drewN _ _ _) (congrArg (World.drewN _) (Nat.add_assoc _ _ _))⟩)) | (go_at_call 13; (with_reducible refine (quaerelaw0_Num.calls t386 t390 _ A30.out).mono ?_); rintro e w' ⟨rfl, ⟨nd, rfl⟩⟩; (try first | exact ⟨rfl, _, World.drewN_drewN _ _ _⟩ | exact ⟨rfl, _, Eq.trans (World.drewN_drewN _ _ _) (congrArg (World.drewN _) (Nat.add_assoc _ _ _))⟩); obtain ⟨Ao36, co36, eo36⟩ := Kd.R_slice HO384.out; subst eo36; obtain ⟨Ao37, co37, eo37⟩ := Kd.R_slice HO388.out; subst eo37) | (go_at_call 18; (with_reducible refine (quaerelaw0_SameInts.calls kj20 _ _ t381 _ _ t385 t391 _ ?side1 ?side2 ?side3 ?side4 A32.out).mono ?_); (case side1 => exact cK ((Kd.R_reads' HO384.out).2.2)); (case side2 => exact (Kd.R_reads' HO384.out).2.1); (case side3 => exact cK ((Kd.R_reads' HO388.out).2.2)); (case side4 => exact (Kd.R_reads' HO388.out).2.1); rintro e w' ⟨rfl, ⟨nd, rfl⟩⟩; (try first | exact ⟨rfl, _, World.drewN_drewN _ _ _⟩ | exact ⟨rfl, _, Eq.trans (World.drewN_drewN _ _ _) (congrArg (World.drewN _) (Nat.add_assoc _ _ _))⟩))))
          go_ret
          exact ⟨eK, bB⟩
         ·rw [if_neg c31] at H
          have c31b0 : (t389 == t390) = false := beq_eq_false_iff_ne.mpr c31
          have c31b1 : (t389 != t390) = true := bne_iff_ne.mpr c31
          obtain rfl := Option.some.inj H
          obtain ⟨Ao38, co38, eo38⟩ := Kd.S_slice HO_11.out
          subst eo38
          go_wp2_with (first | (go_at_call 19; (with_reducible refine (bind_Apply.calls (hG := gK) kj20 _ _ l0 _ _ t375 _ _ l2 t381 t382 _ ?side1 ?side2 ?side3 ?side4 ?side5 ?side6 A27.out).mono ?_); (case side1 => exact cK (Kd.C_below HR0.out HB.out)); (case side2 => exact HC0.out); (case side3 => exact cK ((Kd.S_reads' HO_11.out).2.2)); (case side4 => exact (Kd.S_reads' HO_11.out).2.1); (case side5 => exact cK (Kd.C_below HR2.out HB.out)); (case side6 => exact HC2.out); rintro e w39 ⟨v383, rfl, ho0, hb⟩; have n0_ := Aside0.mk (Kd.R_elder' (rK HO_7) (Kd.R_base ho0) hb); have n1_ := Aside0.mk (Kd.S_elder' (by (with_reducible repeat (first | apply Kd.S_alloc | apply Kd.S_drewN | apply Kd.S_drew)); exact HO_11.out) (Kd.R_base ho0) hb); have n2_ := Aside0.mk (Kd.R_lower (Kd.R_new' ho0 (Kd.R_lt (rK HO_7))) (below_size bB)); have n3_ := Aside0.mk (below_step bB hb); clear HO_7; clear HO_11; clear HB; have HO_7 := n0_; have HO_11 := n1_; have HO384 := n2_; have HB := n3_; clear n0_ n1_ n2_ n3_; (try clear hb); (try clear hb2); (try clear hk); (try clear hi); (try clear ho0)) | (go_at_call 19; (with_reducible refine (bind_Apply.calls (hG := gK) kj20 _ _ l0 _ _ t375 _ _ t368 t385 t386 _ ?side1 ?side2 ?side3 ?side4 ?side5 ?side6 A28.out).mono ?_); (case side1 => exact cK (Kd.C_below HR0.out HB.out)); (case side2 => exact HC0.out); (case side3 => exact cK ((Kd.S_reads' HO_11.out).2.2)); (case side4 => exact (Kd.S_reads' HO_11.out).2.1); (case side5 => exact cK ((Kd.R_reads' HO_7.out).2.2)); (case side6 => exact (Kd.R_reads' HO_7.out).2.1); rintro e w40 ⟨v387, rfl, ho0, hb⟩; have n0_ := Aside0.mk (Kd.R_elder' (rK HO_7) (Kd.R_base ho0) hb); have n1_ := Aside0.mk (Kd.S_elder' (by (with_reducible repeat (first | apply Kd.S_alloc | apply Kd.S_drewN | apply Kd.S_drew)); exact HO_11.out) (Kd.R_base ho0) hb); have n2_ := Aside0.mk (Kd.R_elder' (rK HO384) (Kd.R_base ho0) hb); have n3_ := Aside0.mk (Kd.R_lower (Kd.R_new' (Kd.R_new' ho0 (Kd.R_lt (rK HO_7))) (Kd.R_lt (rK HO384))) (below_size bB)); have n4_ := Aside0.mk (below_step bB hb); clear HO_7; clear HO_11; clear HO384; clear HB; have HO_7 := n0_; have HO_11 := n1_; have HO384 := n2_; have HO388 := n3_; have HB := n4_; clear n0_ n1_ n2_ n3_ n4_; (try clear hb); (try clear hb2); (try clear hk); (try clear hi); (try clear ho0)) | (go_at_call 13; (with_reducible refine (quaerelaw0_Num.calls t382 t389 _ A29.out).mono ?_); rintro e w' ⟨rfl, ⟨nd, rfl⟩⟩; (try first | exact ⟨rfl, _, World.drewN_drewN _ _ _⟩ | exact ⟨rfl, _, Eq.trans (World.drewN_drewN _ _ _) (congrArg (World.drewN _) (Nat.add_assoc _ _ _))⟩)) | (go_at_call 13; (with_reducible refine (quaerelaw0_Num.calls t386 t390 _ A30.out).mono ?_); rintro e w' ⟨rfl, ⟨nd, rfl⟩⟩; (try first | exact ⟨rfl, _, World.drewN_drewN _ _ _⟩ | exact ⟨rfl, _, Eq.trans (World.drewN_drewN _ _ _) (congrArg (World.drewN _) (Nat.add_assoc _ _ _))⟩)))
          repeat (go_quiet (first | (go_at_call 19; (with_reducible refine (bind_Apply.calls (hG := gK) kj20 _ _ l0 _ _ t375 _ _ l2 t381 t382 _ ?side1 ?side2 ?side3 ?side4 ?side5 ?side6 A27.out).mono ?_); (case side1 => exact cK (Kd.C_below HR0.out HB.out)); (case side2 => exact HC0.out); (case side3 => exact cK ((Kd.S_reads' HO_11.out).2.2)); (case side4 => exact (Kd.S_reads' HO_11.out).2.1); (case side5 => exact cK (Kd.C_below HR2.out HB.out)); (case side6 => exact HC2.out); rintro e w39 ⟨v383, rfl, ho0, hb⟩; have n0_ := Aside0.mk (Kd.R_elder' (rK HO_7) (Kd.R_base ho0) hb); have n1_ := Aside0.mk (Kd.S_elder' (by (with_reducible repeat (first | apply Kd.S_alloc | apply Kd.S_drewN | apply Kd.S_drew)); exact HO_11.out) (Kd.R_base ho0) hb); have n2_ := Aside0.mk (Kd.R_lower (Kd.R_new' ho0 (Kd.R_lt (rK HO_7))) (below_size bB)); have n3_ := Aside0.mk (below_step bB hb); clear HO_7; clear HO_11; clear HB; have HO_7 := n0_; have HO_11 := n1_; have HO384 := n2_; have HB := n3_; clear n0_ n1_ n2_ n3_; (try clear hb); (try clear hb2); (try clear hk); (try clear hi); (try clear ho0)) | (go_at_call 19; (with_reducible refine (bind_Apply.calls (hG := gK) kj20 _ _ l0 _ _ t375 _ _ t368 t385 t386 _ ?side1 ?side2 ?side3 ?side4 ?side5 ?side6 A28.out).mono ?_); (case side1 => exact cK (Kd.C_below HR0.out HB.out)); (case side2 => exact HC0.out); (case side3 => exact cK ((Kd.S_reads' HO_11.out).2.2)); (case side4 => exact (Kd.S_reads' HO_11.out).2.1); (case side5 => exact cK ((Kd.R_reads' HO_7.out).2.2)); (case side6 => exact (Kd.R_reads' HO_7.out).2.1); rintro e w40 ⟨v387, rfl, ho0, hb⟩; have n0_ := Aside0.mk (Kd.R_elder' (rK HO_7) (Kd.R_base ho0) hb); have n1_ := Aside0.mk (Kd.S_elder' (by (with_reducible repeat (first | apply Kd.S_alloc | apply Kd.S_drewN | apply Kd.S_drew)); exact HO_11.out) (Kd.R_base ho0) hb); have n2_ := Aside0.mk (Kd.R_elder' (rK HO384) (Kd.R_base ho0) hb); have n3_ := Aside0.mk (Kd.R_lower (Kd.R_new' (Kd.R_new' ho0 (Kd.R_lt (rK HO_7))) (Kd.R_lt (rK HO384))) (below_size bB)); have n4_ := Aside0.mk (below_step bB hb); clear HO_7; clear HO_11; clear HO384; clear HB; have HO_7 := n0_; have HO_11 := n1_; have HO384 := n2_; have HO388 := n3_; have HB := n4_; clear n0_ n1_ n2_ n3_ n4_; (try clear hb); (try clear hb2); (try clear hk); (try clear hi); (try clear ho0)) | (go_at_call 13; (with_reducible refine (quaerelaw0_Num.calls t382 t389 _ A29.out).mono ?_); rintro e w' ⟨rfl, ⟨nd, rfl⟩⟩; (try first | exact ⟨rfl, _, World.drewN_drewN _ _ _⟩ | exact ⟨rfl, _, Eq.trans (World.drewN_drewN _ _ _) (congrArg (World.drewN _) (Nat.add_assoc _ _ _))⟩)) | (go_at_call 13; (with_reducible refine (quaerelaw0_Num.calls t386 t390 _ A30.out).mono ?_); rintro e w' ⟨rfl, ⟨nd, rfl⟩⟩; (try first | exact ⟨rfl, _, World.drewN_drewN _ _ _⟩ | exact ⟨rfl, _, Eq.trans (World.drewN_drewN _ _ _) (congrArg (World.drewN _) (Nat.add_assoc _ _ _))⟩))); try go_wp2_with (first | (go_at_call 19; (with_reducible refine (bind_Apply.calls (hG := gK) kj20 _ _ l0 _ _ t375 _ _ l2 t381 t382 _ ?side1 ?side2 ?side3 ?side4 ?side5 ?side6 A27.out).mono ?_); (case side1 => exact cK (Kd.C_below HR0.out HB.out)); (case side2 => exact HC0.out); (case side3 => exact cK ((Kd.S_reads' HO_11.out).2.2)); (case side4 => exact (Kd.S_reads' HO_11.out).2.1); (case side5 => exact cK (Kd.C_below HR2.out HB.out)); (case side6 => exact HC2.out); rintro e w39 ⟨v383, rfl, ho0, hb⟩; have n0_ := Aside0.mk (Kd.R_elder' (rK HO_7) (Kd.R_base ho0) hb); have n1_ := Aside0.mk (Kd.S_elder' (by (with_reducible repeat (first | apply Kd.S_alloc | apply Kd.S_drewN | apply Kd.S_drew)); exact HO_11.out) (Kd.R_base ho0) hb); have n2_ := Aside0.mk (Kd.R_lower (Kd.R_new' ho0 (Kd.R_lt (rK HO_7))) (below_size bB)); have n3_ := Aside0.mk (below_step bB hb); clear HO_7; clear HO_11; clear HB; have HO_7 := n0_; have HO_11 := n1_; have HO384 := n2_; have HB := n3_; clear n0_ n1_ n2_ n3_; (try clear hb); (try clear hb2); (try clear hk); (try clear hi); (try clear ho0)) | (go_at_call 19; (with_reducible refine (bind_Apply.calls (hG := gK) kj20 _ _ l0 _ _ t375 _ _ t368 t385 t386 _ ?side1 ?side2 ?side3 ?side4 ?side5 ?side6 A28.out).mono ?_); (case side1 => exact cK (Kd.C_below HR0.out HB.out)); (case side2 => exact HC0.out); (case side3 => exact cK ((Kd.S_reads' HO_11.out).2.2)); (case side4 => exact (Kd.S_reads' HO_11.out).2.1); (case side5 => exact cK ((Kd.R_reads' HO_7.out).2.2)); (case side6 => exact (Kd.R_reads' HO_7.out).2.1); rintro e w40 ⟨v387, rfl, ho0, hb⟩; have n0_ := Aside0.mk (Kd.R_elder' (rK HO_7) (Kd.R_base ho0) hb); have n1_ := Aside0.mk (Kd.S_elder' (by (with_reducible repeat (first | apply Kd.S_alloc | apply Kd.S_drewN | apply Kd.S_drew)); exact HO_11.out) (Kd.R_base ho0) hb); have n2_ := Aside0.mk (Kd.R_elder' (rK HO384) (Kd.R_base ho0) hb); have n3_ := Aside0.mk (Kd.R_lower (Kd.R_new' (Kd.R_new' ho0 (Kd.R_lt (rK HO_7))) (Kd.R_lt (rK HO384))) (below_size bB)); have n4_ := Aside0.mk (below_step bB hb); clear HO_7; clear HO_11; clear HO384; clear HB; have HO_7 := n0_; have HO_11 := n1_; have HO384 := n2_; have HO388 := n3_; have HB := n4_; clear n0_ n1_ n2_ n3_ n4_; (try clear hb); (try clear hb2); (try clear hk); (try clear hi); (try clear ho0)) | (go_at_call 13; (with_reducible refine (quaerelaw0_Num.calls t382 t389 _ A29.out).mono ?_); rintro e w' ⟨rfl, ⟨nd, rfl⟩⟩; (try first | exact ⟨rfl, _, World.drewN_drewN _ _ _⟩ | exact ⟨rfl, _, Eq.trans (World.drewN_drewN _ _ _) (congrArg (World.drewN _) (Nat.add_assoc _ _ _))⟩)) | (go_at_call 13; (with_reducible refine (quaerelaw0_Num.calls t386 t390 _ A30.out).mono ?_); rintro e w' ⟨rfl, ⟨nd, rfl⟩⟩; (try first | exact ⟨rfl, _, World.drewN_drewN _ _ _⟩ | exact ⟨rfl, _, Eq.trans (World.drewN_drewN _ _ _) (congrArg (World.drewN _) (Nat.add_assoc _ _ _))⟩))))
          go_ret
          exact ⟨eK, bB⟩
  ·rw [if_neg c8] at H
   have c8b0 : (t372 == 0) = false := beq_eq_false_iff_ne.mpr c8
   have c8b1 : (t372 != 0) = true := bne_iff_ne.mpr c8
   obtain rfl := Option.some.inj H
   go_enter Tryd.func7, Tryd.ntmps7
   go_wp2_with (first | (go_at_call 16; (with_reducible refine (quaerelaw4_awake.calls (hG := gK) k  true _ A4.out).mono ?_); rintro e w41 ⟨rfl, hb⟩; have n0_ := Aside0.mk (below_step bB hb); clear HB; have HB := n0_; clear n0_; (try clear hb); (try clear hb2); (try clear hk); (try clear hi)) | (go_at_call 19; (with_reducible refine (bind_Apply.calls (hG := gK) k _ _ l0 _ _ l1 _ _ l2 t368 t369 _ ?side1 ?side2 ?side3 ?side4 ?side5 ?side6 A6.out).mono ?_); (case side1 => exact cK (Kd.C_below HR0.out HB.out)); (case side2 => exact HC0.out); (case side3 => exact cK (Kd.C_below HR1.out HB.out)); (case side4 => exact HC1.out); (case side5 => exact cK (Kd.C_below HR2.out HB.out)); (case side6 => exact HC2.out); rintro e w42 ⟨v370, rfl, ho0, hb⟩; have n0_ := Aside0.mk (Kd.R_lower ho0 (below_size bB)); have n1_ := Aside0.mk (below_step bB hb); clear HB; have HO371 := n0_; have HB := n1_; clear n0_ n1_; (try clear hb); (try clear hb2); (try clear hk); (try clear hi); (try clear ho0)) | (go_at_call 13; (with_reducible refine (quaerelaw0_Num.calls t369 t372 _ A7.out).mono ?_); rintro e w' ⟨rfl, ⟨nd, rfl⟩⟩; (try first | exact ⟨rfl, _, World.drewN_drewN _ _ _⟩ | exact ⟨rfl, _, Eq.trans (World.drewN_drewN _ _ _) (congrArg (World.drewN _) (Nat.add_assoc _ _ _))⟩)))
   repeat (go_quiet (first | (go_at_call 16; (with_reducible refine (quaerelaw4_awake.calls (hG := gK) k  true _ A4.out).mono ?_); rintro e w41 ⟨rfl, hb⟩; have n0_ := Aside0.mk (below_step bB hb); clear HB; have HB := n0_; clear n0_; (try clear hb); (try clear hb2); (try clear hk); (try clear hi)) | (go_at_call 19; (with_reducible refine (bind_Apply.calls (hG := gK) k _ _ l0 _ _ l1 _ _ l2 t368 t369 _ ?side1 ?side2 ?side3 ?side4 ?side5 ?side6 A6.out).mono ?_); (case side1 => exact cK (Kd.C_below HR0.out HB.out)); (case side2 => exact HC0.out); (case side3 => exact cK (Kd.C_below HR1.out HB.out)); (case side4 => exact HC1.out); (case side5 => exact cK (Kd.C_below HR2.out HB.out)); (case side6 => exact HC2.out); rintro e w42 ⟨v370, rfl, ho0, hb⟩; have n0_ := Aside0.mk (Kd.R_lower ho0 (below_size bB)); have n1_ := Aside0.mk (below_step bB hb); clear HB; have HO371 := n0_; have HB := n1_; clear n0_ n1_; (try clear hb); (try clear hb2); (try clear hk); (try clear hi); (try clear ho0)) | (go_at_call 13; (with_reducible refine (quaerelaw0_Num.calls t369 t372 _ A7.out).mono ?_); rintro e w' ⟨rfl, ⟨nd, rfl⟩⟩; (try first | exact ⟨rfl, _, World.drewN_drewN _ _ _⟩ | exact ⟨rfl, _, Eq.trans (World.drewN_drewN _ _ _) (congrArg (World.drewN _) (Nat.add_assoc _ _ _))⟩))); try go_wp2_with (first | (go_at_call 16; (with_reducible refine (quaerelaw4_awake.calls (hG := gK) k  true _ A4.out).mono ?_); rintro e w41 ⟨rfl, hb⟩; have n0_ := Aside0.mk (below_step bB hb); clear HB; have HB := n0_; clear n0_; (try clear hb); (try clear hb2); (try clear hk); (try clear hi)) | (go_at_call 19; (with_reducible refine (bind_Apply.calls (hG := gK) k _ _ l0 _ _ l1 _ _ l2 t368 t369 _ ?side1 ?side2 ?side3 ?side4 ?side5 ?side6 A6.out).mono ?_); (case side1 => exact cK (Kd.C_below HR0.out HB.out)); (case side2 => exact HC0.out); (case side3 => exact cK (Kd.C_below HR1.out HB.out)); (case side4 => exact HC1.out); (case side5 => exact cK (Kd.C_below HR2.out HB.out)); (case side6 => exact HC2.out); rintro e w42 ⟨v370, rfl, ho0, hb⟩; have n0_ := Aside0.mk (Kd.R_lower ho0 (below_size bB)); have n1_ := Aside0.mk (below_step bB hb); clear HB; have HO371 := n0_; have HB := n1_; clear n0_ n1_; (try clear hb); (try clear hb2); (try clear hk); (try clear hi); (try clear ho0)) | (go_at_call 13; (with_reducible refine (quaerelaw0_Num.calls t369 t372 _ A7.out).mono ?_); rintro e w' ⟨rfl, ⟨nd, rfl⟩⟩; (try first | exact ⟨rfl, _, World.drewN_drewN _ _ _⟩ | exact ⟨rfl, _, Eq.trans (World.drewN_drewN _ _ _) (congrArg (World.drewN _) (Nat.add_assoc _ _ _))⟩))))
   go_ret
   exact ⟨eK, bB⟩
 ·replace c5 := Bool.eq_false_iff.mpr c5
  subst c5
  have H1 : (some false) = some r := by rw [if_neg (show ¬ (false = true) by decide)] at H; exact H
  clear H
  have H := H1
  clear H1
  obtain rfl := Option.some.inj H
  go_enter Tryd.func7, Tryd.ntmps7
  go_wp2_with (first | (go_at_call 16; (with_reducible refine (quaerelaw4_awake.calls (hG := gK) k  false _ A4.out).mono ?_); rintro e w43 ⟨rfl, hb⟩; have n0_ := Aside0.mk (below_step bB hb); clear HB; have HB := n0_; clear n0_; (try clear hb); (try clear hb2); (try clear hk); (try clear hi)))
  repeat (go_quiet (first | (go_at_call 16; (with_reducible refine (quaerelaw4_awake.calls (hG := gK) k  false _ A4.out).mono ?_); rintro e w43 ⟨rfl, hb⟩; have n0_ := Aside0.mk (below_step bB hb); clear HB; have HB := n0_; clear n0_; (try clear hb); (try clear hb2); (try clear hk); (try clear hi))); try go_wp2_with (first | (go_at_call 16; (with_reducible refine (quaerelaw4_awake.calls (hG := gK) k  false _ A4.out).mono ?_); rintro e w43 ⟨rfl, hb⟩; have n0_ := Aside0.mk (below_step bB hb); clear HB; have HB := n0_; clear n0_; (try clear hb); (try clear hb2); (try clear hk); (try clear hi))))
  go_ret
  exact ⟨eK, bB⟩

end Go.Proofs.YtaegdhpcnpojnaaDoor.PU
