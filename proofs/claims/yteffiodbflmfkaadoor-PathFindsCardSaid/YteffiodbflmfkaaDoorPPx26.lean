import Derived.Test.YteffiodbflmfkaaDoorPPx0
import Derived.Test.YteffiodbflmfkaaDoorPPx6
import Derived.Test.YteffiodbflmfkaaDoorPPx7
import Derived.Test.YteffiodbflmfkaaDoorPPx19
import Derived.Test.YteffiodbflmfkaaDoorPPx20
import Derived.Test.YteffiodbflmfkaaDoorPPx25
namespace Go.Proofs.YteffiodbflmfkaaDoor.PP
open Go.RowKit Go.Proofs.YteffiodbflmfkaaDoorW.PrintWords Go.Proofs.YteffiodbflmfkaaDoorW.PrintLast Go.Proofs.YteffiodbflmfkaaDoorW.PrintMore
attribute [local go_sem] jump_ret jumpE_ret max2_int min2_int max_two min_two max_three min_three max_four min_four
set_option linter.unusedVariables false
set_option linter.unusedSimpArgs false

/-! ### quaerelaw12_PathFinds: function 4 -/
noncomputable def quaerelaw12_PathFinds.f (k : Nat) (l0 : List (S59)) (l1 : List (List Int)) (l2 : List Int) (a3 : Int) : Option (Bool) := (quaerelaw0_CopyRows.f k l1).bind fun t444 => ((path_Find.f k l0 l1 l2 a3).bind fun bt447 => ((quaereref11_Find.f k l0 l1 l2 a3).bind fun bt451 => ((quaerelaw0_SameInts.f k bt447.1 bt451.1).bind fun t455 => (if t455 = true then ((quaerelaw0_Num.f bt447.2).bind fun t456 => (if t456 = bt451.2 then ((quaerelaw0_SameRows.f k l1 t444).bind fun t457 => (if t457 = true then ((quaerelaw12_awake.f k).bind fun t458 => (some t458)) else (some false))) else (some false))) else (some false)))))
theorem quaerelaw12_PathFinds.mono : ∀ a0 a1 a2 a3 k, LeO (quaerelaw12_PathFinds.f k a0 a1 a2 a3) (quaerelaw12_PathFinds.f (k + 1) a0 a1 a2 a3) := by
 intro a0 a1 a2 a3 k
 unfold quaerelaw12_PathFinds.f
 repeat' first
   | (with_reducible exact LeO.refl _)
   | (with_reducible exact LeO.none _)
   | (with_reducible refine LeO.ite ?_ ?_)
   | (with_reducible refine LeO.bind ?_ (fun _ => ?_))
   | exact path_Find.mono _ _ _ _ _
   | exact quaerelaw0_CopyRows.mono _ _
   | exact quaerelaw0_SameInts.mono _ _ _
   | exact quaerelaw0_SameRows.mono _ _ _
   | exact quaerelaw12_awake.mono _
   | exact quaereref11_Find.mono _ _ _ _ _
   | exact LeO.none _
   | refine LeO.ite ?_ ?_
   | refine LeO.bind ?_ (fun _ => ?_)
set_option maxHeartbeats 8000000 in
set_option maxRecDepth 100000 in
theorem quaerelaw12_PathFinds.calls (k : Nat) (A0 : Option Addr) (c0 : Nat) (l0 : List (S59)) (A1 : Option Addr) (c1 : Nat) (l1 : List (List Int)) (A2 : Option Addr) (c2 : Nat) (l2 : List Int) (a3 : Int) (r : Bool) (w : World) (hr0 : Kd.C k59 w A0 l0.length l0) (hc0 : l0.length ≤ c0) (hr1 : Kd.C (Kd.slice 3 (Kd.int .i64)) w A1 l1.length l1) (hc1 : l1.length ≤ c1) (hr2 : Kd.C (Kd.int .i64) w A2 l2.length l2) (hc2 : l2.length ≤ c2) (h : quaerelaw12_PathFinds.f k l0 l1 l2 a3 = some r) (hG : Glob w) :
  Calls Tryd.prog 4 #[.slice A0 l0.length c0, .slice A1 l1.length c1, .slice A2 l2.length c2, .int .i64 a3] w fun e w' => e = .returned (.bool r) ∧ Below w.heap.size w w' := by
 have HR0 := Aside0.mk hr0
 have HC0 := Aside0.mk hc0
 clear hr0 hc0
 have HR1 := Aside0.mk hr1
 have HC1 := Aside0.mk hc1
 clear hr1 hc1
 have HR2 := Aside0.mk hr2
 have HC2 := Aside0.mk hc2
 clear hr2 hc2
 have HB := Aside0.mk (Below.refl w.heap.size w)
 have H : ((quaerelaw0_CopyRows.f k l1).bind fun t444 => ((path_Find.f k l0 l1 l2 a3).bind fun bt447 => ((quaereref11_Find.f k l0 l1 l2 a3).bind fun bt451 => ((quaerelaw0_SameInts.f k bt447.1 bt451.1).bind fun t455 => (if t455 = true then ((quaerelaw0_Num.f bt447.2).bind fun t456 => (if t456 = bt451.2 then ((quaerelaw0_SameRows.f k l1 t444).bind fun t457 => (if t457 = true then ((quaerelaw12_awake.f k).bind fun t458 => (some t458)) else (some false))) else (some false))) else (some false)))))) = some r := h
 clear h
 replace H := Option.bind_eq_some_iff.mp H
 obtain ⟨t444, A50, H⟩ := H
 replace H : ((path_Find.f k l0 l1 l2 a3).bind fun bt447 => ((quaereref11_Find.f k l0 l1 l2 a3).bind fun bt451 => ((quaerelaw0_SameInts.f k bt447.1 bt451.1).bind fun t455 => (if t455 = true then ((quaerelaw0_Num.f bt447.2).bind fun t456 => (if t456 = bt451.2 then ((quaerelaw0_SameRows.f k l1 t444).bind fun t457 => (if t457 = true then ((quaerelaw12_awake.f k).bind fun t458 => (some t458)) else (some false))) else (some false))) else (some false))))) = some r := H
 have A5 := Aside0.mk A50
 clear A50
 replace H := Option.bind_eq_some_iff.mp H
 obtain ⟨⟨t447, t448⟩, A60, H⟩ := H
 replace H : ((quaereref11_Find.f k l0 l1 l2 a3).bind fun bt451 => ((quaerelaw0_SameInts.f k t447 bt451.1).bind fun t455 => (if t455 = true then ((quaerelaw0_Num.f t448).bind fun t456 => (if t456 = bt451.2 then ((quaerelaw0_SameRows.f k l1 t444).bind fun t457 => (if t457 = true then ((quaerelaw12_awake.f k).bind fun t458 => (some t458)) else (some false))) else (some false))) else (some false)))) = some r := H
 have A6 := Aside0.mk A60
 clear A60
 replace H := Option.bind_eq_some_iff.mp H
 obtain ⟨⟨t451, t452⟩, A70, H⟩ := H
 replace H : ((quaerelaw0_SameInts.f k t447 t451).bind fun t455 => (if t455 = true then ((quaerelaw0_Num.f t448).bind fun t456 => (if t456 = t452 then ((quaerelaw0_SameRows.f k l1 t444).bind fun t457 => (if t457 = true then ((quaerelaw12_awake.f k).bind fun t458 => (some t458)) else (some false))) else (some false))) else (some false))) = some r := H
 have A7 := Aside0.mk A70
 clear A70
 replace H := Option.bind_eq_some_iff.mp H
 obtain ⟨t455, A80, H⟩ := H
 replace H : (if t455 = true then ((quaerelaw0_Num.f t448).bind fun t456 => (if t456 = t452 then ((quaerelaw0_SameRows.f k l1 t444).bind fun t457 => (if t457 = true then ((quaerelaw12_awake.f k).bind fun t458 => (some t458)) else (some false))) else (some false))) else (some false)) = some r := H
 have A8 := Aside0.mk A80
 clear A80
 by_cases c9 : t455 = true
 ·subst c9
  have H1 : ((quaerelaw0_Num.f t448).bind fun t456 => (if t456 = t452 then ((quaerelaw0_SameRows.f k l1 t444).bind fun t457 => (if t457 = true then ((quaerelaw12_awake.f k).bind fun t458 => (some t458)) else (some false))) else (some false))) = some r := by rw [if_pos rfl] at H; exact H
  clear H
  have H := H1
  clear H1
  replace H := Option.bind_eq_some_iff.mp H
  obtain ⟨t456, A100, H⟩ := H
  replace H : (if t456 = t452 then ((quaerelaw0_SameRows.f k l1 t444).bind fun t457 => (if t457 = true then ((quaerelaw12_awake.f k).bind fun t458 => (some t458)) else (some false))) else (some false)) = some r := H
  have A10 := Aside0.mk A100
  clear A100
  by_cases c11 : t456 = t452
  ·rw [if_pos c11] at H
   have c11b0 : (t456 == t452) = true := beq_iff_eq.mpr c11
   have c11b1 : (t456 != t452) = false := bne_eq_false_iff_eq.mpr c11
   clear c11
   replace H := Option.bind_eq_some_iff.mp H
   obtain ⟨t457, A120, H⟩ := H
   replace H : (if t457 = true then ((quaerelaw12_awake.f k).bind fun t458 => (some t458)) else (some false)) = some r := H
   have A12 := Aside0.mk A120
   clear A120
   by_cases c13 : t457 = true
   ·subst c13
    have H1 : ((quaerelaw12_awake.f k).bind fun t458 => (some t458)) = some r := by rw [if_pos rfl] at H; exact H
    clear H
    have H := H1
    clear H1
    replace H := Option.bind_eq_some_iff.mp H
    obtain ⟨t458, A140, H⟩ := H
    replace H : (some t458) = some r := H
    have A14 := Aside0.mk A140
    clear A140
    obtain rfl := Option.some.inj H
    go_enter Tryd.func4, Tryd.ntmps4
    go_wp2_with (first | ((with_reducible refine gate_callee (f := 17) rfl ?_); refine goesL_ (some 15) rfl rfl Tryd.func17 (by kernel_rfl) rfl #[.slice A1 l1.length c1] rfl mA ?_; (with_reducible refine (quaerelaw0_CopyRows.calls k _ _ l1 t444 _ ?side1 ?side2 A5.out).mono ?_); (case side1 => exact cK (HR1.out)); (case side2 => exact HC1.out); rintro e w15 ⟨v445, rfl, ho0, hb⟩; refine ⟨_, rfl, ?_⟩; have n0_ := Aside0.mk (Kd.S_lower ho0 (below_size bB)); have n1_ := Aside0.mk (below_step bB hb); clear HB; have HO446 := n0_; have HB := n1_; clear n0_ n1_; (try clear hb); (try clear hb2); (try clear hk); (try clear hi); (try clear ho0)) | ((with_reducible refine gate_callee (f := 18) rfl ?_); refine goesL_ (some 21) rfl rfl Tryd.func18 (by kernel_rfl) rfl #[.slice A0 l0.length c0, .slice A1 l1.length c1, .slice A2 l2.length c2, .int .i64 a3] rfl mA ?_; (with_reducible refine (path_Find.calls (hG := gK) k _ _ l0 _ _ l1 _ _ l2 a3 t447 t448 _ ?side1 ?side2 ?side3 ?side4 ?side5 ?side6 A6.out).mono ?_); (case side1 => exact cK (Kd.C_below HR0.out HB.out)); (case side2 => exact HC0.out); (case side3 => exact cK (Kd.C_below HR1.out HB.out)); (case side4 => exact HC1.out); (case side5 => exact cK (Kd.C_below HR2.out HB.out)); (case side6 => exact HC2.out); rintro e w16 ⟨v449, rfl, ho0, hb⟩; refine ⟨_, rfl, ?_⟩; have n0_ := Aside0.mk (Kd.S_elder' (by (with_reducible repeat (first | apply Kd.S_alloc | apply Kd.S_drewN | apply Kd.S_drew)); exact HO446.out) (Kd.R_base ho0) hb); have n1_ := Aside0.mk (Kd.R_lower ho0 (below_size bB)); have n2_ := Aside0.mk (below_step bB hb); clear HO446; clear HB; have HO446 := n0_; have HO450 := n1_; have HB := n2_; clear n0_ n1_ n2_; (try clear hb); (try clear hb2); (try clear hk); (try clear hi); (try clear ho0)) | ((with_reducible refine gate_callee (f := 19) rfl ?_); refine goesL_ (some 29) rfl rfl Tryd.func19 (by kernel_rfl) rfl #[.slice A0 l0.length c0, .slice A1 l1.length c1, .slice A2 l2.length c2, .int .i64 a3] rfl mA ?_; (with_reducible refine (quaereref11_Find.calls k _ _ l0 _ _ l1 _ _ l2 a3 t451 t452 _ ?side1 ?side2 ?side3 ?side4 ?side5 ?side6 A7.out).mono ?_); (case side1 => exact cK (Kd.C_below HR0.out HB.out)); (case side2 => exact HC0.out); (case side3 => exact cK (Kd.C_below HR1.out HB.out)); (case side4 => exact HC1.out); (case side5 => exact cK (Kd.C_below HR2.out HB.out)); (case side6 => exact HC2.out); rintro e w17 ⟨v453, rfl, ho0, hb⟩; refine ⟨_, rfl, ?_⟩; have n0_ := Aside0.mk (Kd.S_elder' (by (with_reducible repeat (first | apply Kd.S_alloc | apply Kd.S_drewN | apply Kd.S_drew)); exact HO446.out) (Kd.R_base ho0) hb); have n1_ := Aside0.mk (Kd.R_elder' (rK HO450) (Kd.R_base ho0) hb); have n2_ := Aside0.mk (Kd.R_lower (Kd.R_new' ho0 (Kd.R_lt (rK HO450))) (below_size bB)); have n3_ := Aside0.mk (below_step bB hb); clear HO446; clear HO450; clear HB; have HO446 := n0_; have HO450 := n1_; have HO454 := n2_; have HB := n3_; clear n0_ n1_ n2_ n3_; (try clear hb); (try clear hb2); (try clear hk); (try clear hi); (try clear ho0); obtain ⟨Ao18, co18, eo18⟩ := Kd.R_slice HO450.out; subst eo18; obtain ⟨Ao19, co19, eo19⟩ := Kd.R_slice HO454.out; subst eo19) | ((with_reducible refine gate_callee (f := 20) rfl ?_); refine goesL_ (some 34) rfl rfl Tryd.func20 (by kernel_rfl) rfl #[.slice Ao18 t447.length co18, .slice Ao19 t451.length co19] rfl mA ?_; (with_reducible refine (quaerelaw0_SameInts.calls k _ _ t447 _ _ t451 true _ ?side1 ?side2 ?side3 ?side4 A8.out).mono ?_); (case side1 => exact cK ((Kd.R_reads' HO450.out).2.2)); (case side2 => exact (Kd.R_reads' HO450.out).2.1); (case side3 => exact cK ((Kd.R_reads' HO454.out).2.2)); (case side4 => exact (Kd.R_reads' HO454.out).2.1); rintro e w' ⟨rfl, ⟨nd, rfl⟩⟩; refine ⟨_, rfl, ?_⟩) | (go_at_call 13; (with_reducible refine (quaerelaw0_Num.calls t448 t456 _ A10.out).mono ?_); rintro e w' ⟨rfl, ⟨nd, rfl⟩⟩; obtain ⟨Ao20, co20, eo20⟩ := Kd.S_slice HO446.out; subst eo20) | (go_at_call 12; (with_reducible refine (quaerelaw0_SameRows.calls k _ _ l1 _ _ t444 true _ ?side1 ?side2 ?side3 ?side4 A12.out).mono ?_); (case side1 => exact cK (Kd.C_below HR1.out bB)); (case side2 => exact HC1.out); (case side3 => exact cK ((Kd.S_reads' HO446.out).2.2)); (case side4 => exact (Kd.S_reads' HO446.out).2.1); rintro e w' ⟨rfl, ⟨nd, rfl⟩⟩) | (go_at_call 16; (with_reducible refine (quaerelaw12_awake.calls (hG := gK) k  t458 _ A14.out).mono ?_); rintro e w21 ⟨rfl, hb⟩; have n0_ := Aside0.mk (Kd.S_below (by (with_reducible repeat (first | apply Kd.S_alloc | apply Kd.S_drewN | apply Kd.S_drew)); exact HO446.out) hb); have n1_ := Aside0.mk (Kd.R_below (rK HO450) hb); have n2_ := Aside0.mk (Kd.R_below (rK HO454) hb); have n3_ := Aside0.mk (below_step bB hb); clear HO446; clear HO450; clear HO454; clear HB; have HO446 := n0_; have HO450 := n1_; have HO454 := n2_; have HB := n3_; clear n0_ n1_ n2_ n3_; (try clear hb); (try clear hb2); (try clear hk); (try clear hi)))
    go_ret
    exact ⟨eK, bB⟩
   ·replace c13 := Bool.eq_false_iff.mpr c13
    subst c13
    have H1 : (some false) = some r := by rw [if_neg (show ¬ (false = true) by decide)] at H; exact H
    clear H
    have H := H1
    clear H1
    obtain rfl := Option.some.inj H
    go_enter Tryd.func4, Tryd.ntmps4
    go_wp2_with (first | ((with_reducible refine gate_callee (f := 17) rfl ?_); refine goesL_ (some 15) rfl rfl Tryd.func17 (by kernel_rfl) rfl #[.slice A1 l1.length c1] rfl mA ?_; (with_reducible refine (quaerelaw0_CopyRows.calls k _ _ l1 t444 _ ?side1 ?side2 A5.out).mono ?_); (case side1 => exact cK (HR1.out)); (case side2 => exact HC1.out); rintro e w22 ⟨v445, rfl, ho0, hb⟩; refine ⟨_, rfl, ?_⟩; have n0_ := Aside0.mk (Kd.S_lower ho0 (below_size bB)); have n1_ := Aside0.mk (below_step bB hb); clear HB; have HO446 := n0_; have HB := n1_; clear n0_ n1_; (try clear hb); (try clear hb2); (try clear hk); (try clear hi); (try clear ho0)) | ((with_reducible refine gate_callee (f := 18) rfl ?_); refine goesL_ (some 21) rfl rfl Tryd.func18 (by kernel_rfl) rfl #[.slice A0 l0.length c0, .slice A1 l1.length c1, .slice A2 l2.length c2, .int .i64 a3] rfl mA ?_; (with_reducible refine (path_Find.calls (hG := gK) k _ _ l0 _ _ l1 _ _ l2 a3 t447 t448 _ ?side1 ?side2 ?side3 ?side4 ?side5 ?side6 A6.out).mono ?_); (case side1 => exact cK (Kd.C_below HR0.out HB.out)); (case side2 => exact HC0.out); (case side3 => exact cK (Kd.C_below HR1.out HB.out)); (case side4 => exact HC1.out); (case side5 => exact cK (Kd.C_below HR2.out HB.out)); (case side6 => exact HC2.out); rintro e w23 ⟨v449, rfl, ho0, hb⟩; refine ⟨_, rfl, ?_⟩; have n0_ := Aside0.mk (Kd.S_elder' (by (with_reducible repeat (first | apply Kd.S_alloc | apply Kd.S_drewN | apply Kd.S_drew)); exact HO446.out) (Kd.R_base ho0) hb); have n1_ := Aside0.mk (Kd.R_lower ho0 (below_size bB)); have n2_ := Aside0.mk (below_step bB hb); clear HO446; clear HB; have HO446 := n0_; have HO450 := n1_; have HB := n2_; clear n0_ n1_ n2_; (try clear hb); (try clear hb2); (try clear hk); (try clear hi); (try clear ho0)) | ((with_reducible refine gate_callee (f := 19) rfl ?_); refine goesL_ (some 29) rfl rfl Tryd.func19 (by kernel_rfl) rfl #[.slice A0 l0.length c0, .slice A1 l1.length c1, .slice A2 l2.length c2, .int .i64 a3] rfl mA ?_; (with_reducible refine (quaereref11_Find.calls k _ _ l0 _ _ l1 _ _ l2 a3 t451 t452 _ ?side1 ?side2 ?side3 ?side4 ?side5 ?side6 A7.out).mono ?_); (case side1 => exact cK (Kd.C_below HR0.out HB.out)); (case side2 => exact HC0.out); (case side3 => exact cK (Kd.C_below HR1.out HB.out)); (case side4 => exact HC1.out); (case side5 => exact cK (Kd.C_below HR2.out HB.out)); (case side6 => exact HC2.out); rintro e w24 ⟨v453, rfl, ho0, hb⟩; refine ⟨_, rfl, ?_⟩; have n0_ := Aside0.mk (Kd.S_elder' (by (with_reducible repeat (first | apply Kd.S_alloc | apply Kd.S_drewN | apply Kd.S_drew)); exact HO446.out) (Kd.R_base ho0) hb); have n1_ := Aside0.mk (Kd.R_elder' (rK HO450) (Kd.R_base ho0) hb); have n2_ := Aside0.mk (Kd.R_lower (Kd.R_new' ho0 (Kd.R_lt (rK HO450))) (below_size bB)); have n3_ := Aside0.mk (below_step bB hb); clear HO446; clear HO450; clear HB; have HO446 := n0_; have HO450 := n1_; have HO454 := n2_; have HB := n3_; clear n0_ n1_ n2_ n3_; (try clear hb); (try clear hb2); (try clear hk); (try clear hi); (try clear ho0); obtain ⟨Ao25, co25, eo25⟩ := Kd.R_slice HO450.out; subst eo25; obtain ⟨Ao26, co26, eo26⟩ := Kd.R_slice HO454.out; subst eo26) | ((with_reducible refine gate_callee (f := 20) rfl ?_); refine goesL_ (some 34) rfl rfl Tryd.func20 (by kernel_rfl) rfl #[.slice Ao25 t447.length co25, .slice Ao26 t451.length co26] rfl mA ?_; (with_reducible refine (quaerelaw0_SameInts.calls k _ _ t447 _ _ t451 true _ ?side1 ?side2 ?side3 ?side4 A8.out).mono ?_); (case side1 => exact cK ((Kd.R_reads' HO450.out).2.2)); (case side2 => exact (Kd.R_reads' HO450.out).2.1); (case side3 => exact cK ((Kd.R_reads' HO454.out).2.2)); (case side4 => exact (Kd.R_reads' HO454.out).2.1); rintro e w' ⟨rfl, ⟨nd, rfl⟩⟩; refine ⟨_, rfl, ?_⟩) | (go_at_call 13; (with_reducible refine (quaerelaw0_Num.calls t448 t456 _ A10.out).mono ?_); rintro e w' ⟨rfl, ⟨nd, rfl⟩⟩; obtain ⟨Ao27, co27, eo27⟩ := Kd.S_slice HO446.out; subst eo27) | (go_at_call 12; (with_reducible refine (quaerelaw0_SameRows.calls k _ _ l1 _ _ t444 false _ ?side1 ?side2 ?side3 ?side4 A12.out).mono ?_); (case side1 => exact cK (Kd.C_below HR1.out bB)); (case side2 => exact HC1.out); (case side3 => exact cK ((Kd.S_reads' HO446.out).2.2)); (case side4 => exact (Kd.S_reads' HO446.out).2.1); rintro e w' ⟨rfl, ⟨nd, rfl⟩⟩))
    go_ret
    exact ⟨eK, bB⟩
  ·rw [if_neg c11] at H
   have c11b0 : (t456 == t452) = false := beq_eq_false_iff_ne.mpr c11
   have c11b1 : (t456 != t452) = true := bne_iff_ne.mpr c11
   obtain rfl := Option.some.inj H
   go_enter Tryd.func4, Tryd.ntmps4
   go_wp2_with (first | ((with_reducible refine gate_callee (f := 17) rfl ?_); refine goesL_ (some 15) rfl rfl Tryd.func17 (by kernel_rfl) rfl #[.slice A1 l1.length c1] rfl mA ?_; (with_reducible refine (quaerelaw0_CopyRows.calls k _ _ l1 t444 _ ?side1 ?side2 A5.out).mono ?_); (case side1 => exact cK (HR1.out)); (case side2 => exact HC1.out); rintro e w28 ⟨v445, rfl, ho0, hb⟩; refine ⟨_, rfl, ?_⟩; have n0_ := Aside0.mk (Kd.S_lower ho0 (below_size bB)); have n1_ := Aside0.mk (below_step bB hb); clear HB; have HO446 := n0_; have HB := n1_; clear n0_ n1_; (try clear hb); (try clear hb2); (try clear hk); (try clear hi); (try clear ho0)) | ((with_reducible refine gate_callee (f := 18) rfl ?_); refine goesL_ (some 21) rfl rfl Tryd.func18 (by kernel_rfl) rfl #[.slice A0 l0.length c0, .slice A1 l1.length c1, .slice A2 l2.length c2, .int .i64 a3] rfl mA ?_; (with_reducible refine (path_Find.calls (hG := gK) k _ _ l0 _ _ l1 _ _ l2 a3 t447 t448 _ ?side1 ?side2 ?side3 ?side4 ?side5 ?side6 A6.out).mono ?_); (case side1 => exact cK (Kd.C_below HR0.out HB.out)); (case side2 => exact HC0.out); (case side3 => exact cK (Kd.C_below HR1.out HB.out)); (case side4 => exact HC1.out); (case side5 => exact cK (Kd.C_below HR2.out HB.out)); (case side6 => exact HC2.out); rintro e w29 ⟨v449, rfl, ho0, hb⟩; refine ⟨_, rfl, ?_⟩; have n0_ := Aside0.mk (Kd.S_elder' (by (with_reducible repeat (first | apply Kd.S_alloc | apply Kd.S_drewN | apply Kd.S_drew)); exact HO446.out) (Kd.R_base ho0) hb); have n1_ := Aside0.mk (Kd.R_lower ho0 (below_size bB)); have n2_ := Aside0.mk (below_step bB hb); clear HO446; clear HB; have HO446 := n0_; have HO450 := n1_; have HB := n2_; clear n0_ n1_ n2_; (try clear hb); (try clear hb2); (try clear hk); (try clear hi); (try clear ho0)) | ((with_reducible refine gate_callee (f := 19) rfl ?_); refine goesL_ (some 29) rfl rfl Tryd.func19 (by kernel_rfl) rfl #[.slice A0 l0.length c0, .slice A1 l1.length c1, .slice A2 l2.length c2, .int .i64 a3] rfl mA ?_; (with_reducible refine (quaereref11_Find.calls k _ _ l0 _ _ l1 _ _ l2 a3 t451 t452 _ ?side1 ?side2 ?side3 ?side4 ?side5 ?side6 A7.out).mono ?_); (case side1 => exact cK (Kd.C_below HR0.out HB.out)); (case side2 => exact HC0.out); (case side3 => exact cK (Kd.C_below HR1.out HB.out)); (case side4 => exact HC1.out); (case side5 => exact cK (Kd.C_below HR2.out HB.out)); (case side6 => exact HC2.out); rintro e w30 ⟨v453, rfl, ho0, hb⟩; refine ⟨_, rfl, ?_⟩; have n0_ := Aside0.mk (Kd.S_elder' (by (with_reducible repeat (first | apply Kd.S_alloc | apply Kd.S_drewN | apply Kd.S_drew)); exact HO446.out) (Kd.R_base ho0) hb); have n1_ := Aside0.mk (Kd.R_elder' (rK HO450) (Kd.R_base ho0) hb); have n2_ := Aside0.mk (Kd.R_lower (Kd.R_new' ho0 (Kd.R_lt (rK HO450))) (below_size bB)); have n3_ := Aside0.mk (below_step bB hb); clear HO446; clear HO450; clear HB; have HO446 := n0_; have HO450 := n1_; have HO454 := n2_; have HB := n3_; clear n0_ n1_ n2_ n3_; (try clear hb); (try clear hb2); (try clear hk); (try clear hi); (try clear ho0); obtain ⟨Ao31, co31, eo31⟩ := Kd.R_slice HO450.out; subst eo31; obtain ⟨Ao32, co32, eo32⟩ := Kd.R_slice HO454.out; subst eo32) | ((with_reducible refine gate_callee (f := 20) rfl ?_); refine goesL_ (some 34) rfl rfl Tryd.func20 (by kernel_rfl) rfl #[.slice Ao31 t447.length co31, .slice Ao32 t451.length co32] rfl mA ?_; (with_reducible refine (quaerelaw0_SameInts.calls k _ _ t447 _ _ t451 true _ ?side1 ?side2 ?side3 ?side4 A8.out).mono ?_); (case side1 => exact cK ((Kd.R_reads' HO450.out).2.2)); (case side2 => exact (Kd.R_reads' HO450.out).2.1); (case side3 => exact cK ((Kd.R_reads' HO454.out).2.2)); (case side4 => exact (Kd.R_reads' HO454.out).2.1); rintro e w' ⟨rfl, ⟨nd, rfl⟩⟩; refine ⟨_, rfl, ?_⟩) | (go_at_call 13; (with_reducible refine (quaerelaw0_Num.calls t448 t456 _ A10.out).mono ?_); rintro e w' ⟨rfl, ⟨nd, rfl⟩⟩))
   go_ret
   exact ⟨eK, bB⟩
 ·replace c9 := Bool.eq_false_iff.mpr c9
  subst c9
  have H1 : (some false) = some r := by rw [if_neg (show ¬ (false = true) by decide)] at H; exact H
  clear H
  have H := H1
  clear H1
  obtain rfl := Option.some.inj H
  go_enter Tryd.func4, Tryd.ntmps4
  go_wp2_with (first | ((with_reducible refine gate_callee (f := 17) rfl ?_); refine goesL_ (some 15) rfl rfl Tryd.func17 (by kernel_rfl) rfl #[.slice A1 l1.length c1] rfl mA ?_; (with_reducible refine (quaerelaw0_CopyRows.calls k _ _ l1 t444 _ ?side1 ?side2 A5.out).mono ?_); (case side1 => exact cK (HR1.out)); (case side2 => exact HC1.out); rintro e w33 ⟨v445, rfl, ho0, hb⟩; refine ⟨_, rfl, ?_⟩; have n0_ := Aside0.mk (Kd.S_lower ho0 (below_size bB)); have n1_ := Aside0.mk (below_step bB hb); clear HB; have HO446 := n0_; have HB := n1_; clear n0_ n1_; (try clear hb); (try clear hb2); (try clear hk); (try clear hi); (try clear ho0)) | ((with_reducible refine gate_callee (f := 18) rfl ?_); refine goesL_ (some 21) rfl rfl Tryd.func18 (by kernel_rfl) rfl #[.slice A0 l0.length c0, .slice A1 l1.length c1, .slice A2 l2.length c2, .int .i64 a3] rfl mA ?_; (with_reducible refine (path_Find.calls (hG := gK) k _ _ l0 _ _ l1 _ _ l2 a3 t447 t448 _ ?side1 ?side2 ?side3 ?side4 ?side5 ?side6 A6.out).mono ?_); (case side1 => exact cK (Kd.C_below HR0.out HB.out)); (case side2 => exact HC0.out); (case side3 => exact cK (Kd.C_below HR1.out HB.out)); (case side4 => exact HC1.out); (case side5 => exact cK (Kd.C_below HR2.out HB.out)); (case side6 => exact HC2.out); rintro e w34 ⟨v449, rfl, ho0, hb⟩; refine ⟨_, rfl, ?_⟩; have n0_ := Aside0.mk (Kd.S_elder' (by (with_reducible repeat (first | apply Kd.S_alloc | apply Kd.S_drewN | apply Kd.S_drew)); exact HO446.out) (Kd.R_base ho0) hb); have n1_ := Aside0.mk (Kd.R_lower ho0 (below_size bB)); have n2_ := Aside0.mk (below_step bB hb); clear HO446; clear HB; have HO446 := n0_; have HO450 := n1_; have HB := n2_; clear n0_ n1_ n2_; (try clear hb); (try clear hb2); (try clear hk); (try clear hi); (try clear ho0)) | ((with_reducible refine gate_callee (f := 19) rfl ?_); refine goesL_ (some 29) rfl rfl Tryd.func19 (by kernel_rfl) rfl #[.slice A0 l0.length c0, .slice A1 l1.length c1, .slice A2 l2.length c2, .int .i64 a3] rfl mA ?_; (with_reducible refine (quaereref11_Find.calls k _ _ l0 _ _ l1 _ _ l2 a3 t451 t452 _ ?side1 ?side2 ?side3 ?side4 ?side5 ?side6 A7.out).mono ?_); (case side1 => exact cK (Kd.C_below HR0.out HB.out)); (case side2 => exact HC0.out); (case side3 => exact cK (Kd.C_below HR1.out HB.out)); (case side4 => exact HC1.out); (case side5 => exact cK (Kd.C_below HR2.out HB.out)); (case side6 => exact HC2.out); rintro e w35 ⟨v453, rfl, ho0, hb⟩; refine ⟨_, rfl, ?_⟩; have n0_ := Aside0.mk (Kd.S_elder' (by (with_reducible repeat (first | apply Kd.S_alloc | apply Kd.S_drewN | apply Kd.S_drew)); exact HO446.out) (Kd.R_base ho0) hb); have n1_ := Aside0.mk (Kd.R_elder' (rK HO450) (Kd.R_base ho0) hb); have n2_ := Aside0.mk (Kd.R_lower (Kd.R_new' ho0 (Kd.R_lt (rK HO450))) (below_size bB)); have n3_ := Aside0.mk (below_step bB hb); clear HO446; clear HO450; clear HB; have HO446 := n0_; have HO450 := n1_; have HO454 := n2_; have HB := n3_; clear n0_ n1_ n2_ n3_; (try clear hb); (try clear hb2); (try clear hk); (try clear hi); (try clear ho0); obtain ⟨Ao36, co36, eo36⟩ := Kd.R_slice HO450.out; subst eo36; obtain ⟨Ao37, co37, eo37⟩ := Kd.R_slice HO454.out; subst eo37) | ((with_reducible refine gate_callee (f := 20) rfl ?_); refine goesL_ (some 34) rfl rfl Tryd.func20 (by kernel_rfl) rfl #[.slice Ao36 t447.length co36, .slice Ao37 t451.length co37] rfl mA ?_; (with_reducible refine (quaerelaw0_SameInts.calls k _ _ t447 _ _ t451 false _ ?side1 ?side2 ?side3 ?side4 A8.out).mono ?_); (case side1 => exact cK ((Kd.R_reads' HO450.out).2.2)); (case side2 => exact (Kd.R_reads' HO450.out).2.1); (case side3 => exact cK ((Kd.R_reads' HO454.out).2.2)); (case side4 => exact (Kd.R_reads' HO454.out).2.1); rintro e w' ⟨rfl, ⟨nd, rfl⟩⟩; refine ⟨_, rfl, ?_⟩))
  go_ret
  exact ⟨eK, bB⟩

end Go.Proofs.YteffiodbflmfkaaDoor.PP
