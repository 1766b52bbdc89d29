-- written by a program of this session's (wip/tools/pp.py), after the kit's print
import Derived.Test.YtfnemhkiopgeaaaDoorPLx0
import Derived.Test.YtfnemhkiopgeaaaDoorPLx2
import Derived.Test.YtfnemhkiopgeaaaDoorPLx4
import Derived.Test.YtfnemhkiopgeaaaDoorPLx5
import Derived.Test.YtfnemhkiopgeaaaDoorPLx12
import Derived.Test.YtfnemhkiopgeaaaDoorPLx15
import Derived.Test.YtfnemhkiopgeaaaDoorPLx16
namespace Go.Proofs.YtfnemhkiopgeaaaDoor.PL
open Go.RowKit Go.Proofs.YtfnemhkiopgeaaaDoorW.PrintWords Go.Proofs.YtfnemhkiopgeaaaDoorW.PrintLast Go.Proofs.YtfnemhkiopgeaaaDoorW.PrintMore
attribute [local go_sem] jump_ret max2_int min2_int max_two min_two max_three min_three max_four min_four   -- for this text's walks alone
set_option linter.unusedVariables false
set_option linter.unusedSimpArgs false

/-! ### quaerelaw7_LitTops: function 4 -/
def quaerelaw7_LitTops.f (k : Nat) (l0 : List (S58)) (l1 : List (S25)) : Option (Bool) := if (l1.length : Int) > 60 then (some true) else ((quaerelaw0_CopyLits.f k l1).bind fun t334 => ((lit_Tops.f k l0 l1).bind fun bt337 => ((quaereref8_Tops.f k l0 l1).bind fun bt341 => ((quaerelaw0_SameInts.f k bt337.1 bt341.1).bind fun t345 => (if t345 = true then ((quaerelaw0_Num.f bt337.2).bind fun t346 => (if t346 = bt341.2 then ((quaerelaw0_SameLits.f k t334 l1).bind fun t347 => (if t347 = true then ((quaerelaw7_awake.f k).bind fun t348 => (some t348)) else (some false))) else (some false))) else (some false))))))
theorem quaerelaw7_LitTops.mono : ∀ a0 a1 k, LeO (quaerelaw7_LitTops.f k a0 a1) (quaerelaw7_LitTops.f (k + 1) a0 a1) := by
 intro a0 a1 k
 unfold quaerelaw7_LitTops.f
 repeat' first
   | (with_reducible exact lit_Tops.mono _ _ _)
   | (with_reducible exact quaerelaw0_CopyLits.mono _ _)
   | (with_reducible exact quaerelaw0_SameInts.mono _ _ _)
   | (with_reducible exact quaerelaw0_SameLits.mono _ _ _)
   | (with_reducible exact quaerelaw7_awake.mono _)
   | (with_reducible exact quaereref8_Tops.mono _ _ _)
   | (with_reducible exact LeO.refl _)
   | (with_reducible exact LeO.none _)
   | (with_reducible refine LeO.ite ?_ ?_)
   | (with_reducible refine LeO.bind ?_ (fun _ => ?_))
   | exact lit_Tops.mono _ _ _
   | exact quaerelaw0_CopyLits.mono _ _
   | exact quaerelaw0_SameInts.mono _ _ _
   | exact quaerelaw0_SameLits.mono _ _ _
   | exact quaerelaw7_awake.mono _
   | exact quaereref8_Tops.mono _ _ _
   | exact LeO.none _
   | refine LeO.ite ?_ ?_
   | refine LeO.bind ?_ (fun _ => ?_)
set_option maxHeartbeats 8000000 in
set_option maxRecDepth 100000 in
theorem quaerelaw7_LitTops.calls (k : Nat) (A0 : Option Addr) (c0 : Nat) (l0 : List (S58)) (A1 : Option Addr) (c1 : Nat) (l1 : List (S25)) (r : Bool) (w : World) (hr0 : Kd.C k58 w A0 l0.length l0) (hc0 : l0.length ≤ c0) (hr1 : Kd.C k25 w A1 l1.length l1) (hc1 : l1.length ≤ c1) (h : quaerelaw7_LitTops.f k l0 l1 = some r) (hG : Glob w) :
  Calls Tryd.prog 4 #[.slice A0 l0.length c0, .slice A1 l1.length c1] w fun e w' => e = .returned (.bool r) ∧ Below w.heap.size w w' := by
 have HR0 := Aside0.mk hr0
 have HC0 := Aside0.mk hc0
 clear hr0 hc0
 have HR1 := Aside0.mk hr1
 have HC1 := Aside0.mk hc1
 clear hr1 hc1
 have HB := Aside0.mk (Below.refl w.heap.size w)
 have H : (if (l1.length : Int) > 60 then (some true) else ((quaerelaw0_CopyLits.f k l1).bind fun t334 => ((lit_Tops.f k l0 l1).bind fun bt337 => ((quaereref8_Tops.f k l0 l1).bind fun bt341 => ((quaerelaw0_SameInts.f k bt337.1 bt341.1).bind fun t345 => (if t345 = true then ((quaerelaw0_Num.f bt337.2).bind fun t346 => (if t346 = bt341.2 then ((quaerelaw0_SameLits.f k t334 l1).bind fun t347 => (if t347 = true then ((quaerelaw7_awake.f k).bind fun t348 => (some t348)) else (some false))) else (some false))) else (some false))))))) = some r := h
 clear h
 by_cases c3 : (l1.length : Int) > 60
 ·rw [if_pos c3] at H
  have c3b0 : decide (60 < (l1.length : Int)) = true := decide_eq_true c3
  have c3b1 : decide (60 < l1.length) = true := decide_eq_true (by omega)
  clear c3
  obtain rfl := Option.some.inj H
  go_enter Tryd.func4, Tryd.ntmps4
  go_wp2
  go_ret
  exact ⟨eK, bB⟩
 ·rw [if_neg c3] at H
  have c3b0 : decide (60 < (l1.length : Int)) = false := decide_eq_false c3
  have c3b1 : decide (60 < l1.length) = false := decide_eq_false (by omega)
  clear c3
  replace H := Option.bind_eq_some_iff.mp H
  obtain ⟨t334, A40, H⟩ := H
  replace H : ((lit_Tops.f k l0 l1).bind fun bt337 => ((quaereref8_Tops.f k l0 l1).bind fun bt341 => ((quaerelaw0_SameInts.f k bt337.1 bt341.1).bind fun t345 => (if t345 = true then ((quaerelaw0_Num.f bt337.2).bind fun t346 => (if t346 = bt341.2 then ((quaerelaw0_SameLits.f k t334 l1).bind fun t347 => (if t347 = true then ((quaerelaw7_awake.f k).bind fun t348 => (some t348)) else (some false))) else (some false))) else (some false))))) = some r := H
  have A4 := Aside0.mk A40
  clear A40
  replace H := Option.bind_eq_some_iff.mp H
  obtain ⟨⟨t337, t338⟩, A50, H⟩ := H
  replace H : ((quaereref8_Tops.f k l0 l1).bind fun bt341 => ((quaerelaw0_SameInts.f k t337 bt341.1).bind fun t345 => (if t345 = true then ((quaerelaw0_Num.f t338).bind fun t346 => (if t346 = bt341.2 then ((quaerelaw0_SameLits.f k t334 l1).bind fun t347 => (if t347 = true then ((quaerelaw7_awake.f k).bind fun t348 => (some t348)) else (some false))) else (some false))) else (some false)))) = some r := H
  have A5 := Aside0.mk A50
  clear A50
  replace H := Option.bind_eq_some_iff.mp H
  obtain ⟨⟨t341, t342⟩, A60, H⟩ := H
  replace H : ((quaerelaw0_SameInts.f k t337 t341).bind fun t345 => (if t345 = true then ((quaerelaw0_Num.f t338).bind fun t346 => (if t346 = t342 then ((quaerelaw0_SameLits.f k t334 l1).bind fun t347 => (if t347 = true then ((quaerelaw7_awake.f k).bind fun t348 => (some t348)) else (some false))) else (some false))) else (some false))) = some r := H
  have A6 := Aside0.mk A60
  clear A60
  replace H := Option.bind_eq_some_iff.mp H
  obtain ⟨t345, A70, H⟩ := H
  replace H : (if t345 = true then ((quaerelaw0_Num.f t338).bind fun t346 => (if t346 = t342 then ((quaerelaw0_SameLits.f k t334 l1).bind fun t347 => (if t347 = true then ((quaerelaw7_awake.f k).bind fun t348 => (some t348)) else (some false))) else (some false))) else (some false)) = some r := H
  have A7 := Aside0.mk A70
  clear A70
  by_cases c8 : t345 = true
  ·subst c8
   have H1 : ((quaerelaw0_Num.f t338).bind fun t346 => (if t346 = t342 then ((quaerelaw0_SameLits.f k t334 l1).bind fun t347 => (if t347 = true then ((quaerelaw7_awake.f k).bind fun t348 => (some t348)) else (some false))) else (some false))) = some r := by rw [if_pos rfl] at H; exact H
   clear H
   have H := H1
   clear H1
   replace H := Option.bind_eq_some_iff.mp H
   obtain ⟨t346, A90, H⟩ := H
   replace H : (if t346 = t342 then ((quaerelaw0_SameLits.f k t334 l1).bind fun t347 => (if t347 = true then ((quaerelaw7_awake.f k).bind fun t348 => (some t348)) else (some false))) else (some false)) = some r := H
   have A9 := Aside0.mk A90
   clear A90
   by_cases c10 : t346 = t342
   ·rw [if_pos c10] at H
    have c10b0 : (t346 == t342) = true := beq_iff_eq.mpr c10
    have c10b1 : (t346 != t342) = false := bne_eq_false_iff_eq.mpr c10
    clear c10
    replace H := Option.bind_eq_some_iff.mp H
    obtain ⟨t347, A110, H⟩ := H
    replace H : (if t347 = true then ((quaerelaw7_awake.f k).bind fun t348 => (some t348)) else (some false)) = some r := H
    have A11 := Aside0.mk A110
    clear A110
    by_cases c12 : t347 = true
    ·subst c12
     have H1 : ((quaerelaw7_awake.f k).bind fun t348 => (some t348)) = some r := by rw [if_pos rfl] at H; exact H
     clear H
     have H := H1
     clear H1
     replace H := Option.bind_eq_some_iff.mp H
     obtain ⟨t348, A130, H⟩ := H
     replace H : (some t348) = some r := H
     have A13 := Aside0.mk A130
     clear A130
     obtain rfl := Option.some.inj H
     go_enter Tryd.func4, Tryd.ntmps4
     go_wp2_with (first | ((with_reducible refine gate_callee (f := 9) rfl ?_); refine goesL_ (some 14) rfl rfl Tryd.func9 (by kernel_rfl) rfl #[.slice A1 l1.length c1] rfl mA ?_; (with_reducible refine (quaerelaw0_CopyLits.calls k _ _ l1 t334 _ ?side1 ?side2 A4.out).mono ?_); (case side1 => exact cK (HR1.out)); (case side2 => exact HC1.out); rintro e w14 ⟨v335, rfl, ho0, hb⟩; refine ⟨_, rfl, ?_⟩; have n0_ := Aside0.mk (Kd.S_lower ho0 (below_size bB)); have n1_ := Aside0.mk (below_step bB hb); clear HB; have HO336 := n0_; have HB := n1_; clear n0_ n1_; (try clear hb); (try clear hb2); (try clear hk); (try clear hi); (try clear ho0)) | ((with_reducible refine gate_callee (f := 19) rfl ?_); refine goesL_ (some 18) rfl rfl Tryd.func19 (by kernel_rfl) rfl #[.slice A0 l0.length c0, .slice A1 l1.length c1] rfl mA ?_; (with_reducible refine (lit_Tops.calls (hG := gK) k _ _ l0 _ _ l1 t337 t338 _ ?side1 ?side2 ?side3 ?side4 A5.out).mono ?_); (case side1 => exact cK (Kd.C_below HR0.out HB.out)); (case side2 => exact HC0.out); (case side3 => exact cK (Kd.C_below HR1.out HB.out)); (case side4 => exact HC1.out); rintro e w15 ⟨v339, rfl, ho0, hb⟩; refine ⟨_, rfl, ?_⟩; have n0_ := Aside0.mk (Kd.S_elder' (by (with_reducible repeat (first | apply Kd.S_alloc | apply Kd.S_drewN | apply Kd.S_drew)); exact HO336.out) (Kd.R_base ho0) hb); have n1_ := Aside0.mk (Kd.R_lower ho0 (below_size bB)); have n2_ := Aside0.mk (below_step bB hb); clear HO336; clear HB; have HO336 := n0_; have HO340 := n1_; have HB := n2_; clear n0_ n1_ n2_; (try clear hb); (try clear hb2); (try clear hk); (try clear hi); (try clear ho0)) | ((with_reducible refine gate_callee (f := 20) rfl ?_); refine goesL_ (some 24) rfl rfl Tryd.func20 (by kernel_rfl) rfl #[.slice A0 l0.length c0, .slice A1 l1.length c1] rfl mA ?_; (with_reducible refine (quaereref8_Tops.calls k _ _ l0 _ _ l1 t341 t342 _ ?side1 ?side2 ?side3 ?side4 A6.out).mono ?_); (case side1 => exact cK (Kd.C_below HR0.out HB.out)); (case side2 => exact HC0.out); (case side3 => exact cK (Kd.C_below HR1.out HB.out)); (case side4 => exact HC1.out); rintro e w16 ⟨v343, rfl, ho0, hb⟩; refine ⟨_, rfl, ?_⟩; have n0_ := Aside0.mk (Kd.S_elder' (by (with_reducible repeat (first | apply Kd.S_alloc | apply Kd.S_drewN | apply Kd.S_drew)); exact HO336.out) (Kd.R_base ho0) hb); have n1_ := Aside0.mk (Kd.R_elder' (rK HO340) (Kd.R_base ho0) hb); have n2_ := Aside0.mk (Kd.R_lower (Kd.R_new' ho0 (Kd.R_lt (rK HO340))) (below_size bB)); have n3_ := Aside0.mk (below_step bB hb); clear HO336; clear HO340; clear HB; have HO336 := n0_; have HO340 := n1_; have HO344 := n2_; have HB := n3_; clear n0_ n1_ n2_ n3_; (try clear hb); (try clear hb2); (try clear hk); (try clear hi); (try clear ho0); obtain ⟨Ao17, co17, eo17⟩ := Kd.R_slice HO340.out; subst eo17; obtain ⟨Ao18, co18, eo18⟩ := Kd.R_slice HO344.out; subst eo18) | ((with_reducible refine gate_callee (f := 21) rfl ?_); refine goesL_ (some 29) rfl rfl Tryd.func21 (by kernel_rfl) rfl #[.slice Ao17 t337.length co17, .slice Ao18 t341.length co18] rfl mA ?_; (with_reducible refine (quaerelaw0_SameInts.calls k _ _ t337 _ _ t341 true _ ?side1 ?side2 ?side3 ?side4 A7.out).mono ?_); (case side1 => exact cK ((Kd.R_reads' HO340.out).2.2)); (case side2 => exact (Kd.R_reads' HO340.out).2.1); (case side3 => exact cK ((Kd.R_reads' HO344.out).2.2)); (case side4 => exact (Kd.R_reads' HO344.out).2.1); rintro e w' ⟨rfl, ⟨nd, rfl⟩⟩; refine ⟨_, rfl, ?_⟩) | (go_at_call 16; (with_reducible refine (quaerelaw0_Num.calls t338 t346 _ A9.out).mono ?_); rintro e w' ⟨rfl, ⟨nd, rfl⟩⟩; obtain ⟨Ao19, co19, eo19⟩ := Kd.S_slice HO336.out; subst eo19) | (go_at_call 17; (with_reducible refine (quaerelaw0_SameLits.calls k _ _ t334 _ _ l1 true _ ?side1 ?side2 ?side3 ?side4 A11.out).mono ?_); (case side1 => exact cK ((Kd.S_reads' HO336.out).2.2)); (case side2 => exact (Kd.S_reads' HO336.out).2.1); (case side3 => exact cK (Kd.C_below HR1.out bB)); (case side4 => exact HC1.out); rintro e w' ⟨rfl, ⟨nd, rfl⟩⟩) | (go_at_call 18; (with_reducible refine (quaerelaw7_awake.calls (hG := gK) k  t348 _ A13.out).mono ?_); rintro e w20 ⟨rfl, hb⟩; have n0_ := Aside0.mk (Kd.S_below (by (with_reducible repeat (first | apply Kd.S_alloc | apply Kd.S_drewN | apply Kd.S_drew)); exact HO336.out) hb); have n1_ := Aside0.mk (Kd.R_below (rK HO340) hb); have n2_ := Aside0.mk (Kd.R_below (rK HO344) hb); have n3_ := Aside0.mk (below_step bB hb); clear HO336; clear HO340; clear HO344; clear HB; have HO336 := n0_; have HO340 := n1_; have HO344 := n2_; have HB := n3_; clear n0_ n1_ n2_ n3_; (try clear hb); (try clear hb2); (try clear hk); (try clear hi)))
     go_ret
     exact ⟨eK, bB⟩
    ·replace c12 := Bool.eq_false_iff.mpr c12
     subst c12
     have H1 : (some false) = some r := by rw [if_neg (show ¬ (false = true) by decide)] at H; exact H
     clear H
     have H := H1
     clear H1
     obtain rfl := Option.some.inj H
     go_enter Tryd.func4, Tryd.ntmps4
     go_wp2_with (first | ((with_reducible refine gate_callee (f := 9) rfl ?_); refine goesL_ (some 14) rfl rfl Tryd.func9 (by kernel_rfl) rfl #[.slice A1 l1.length c1] rfl mA ?_; (with_reducible refine (quaerelaw0_CopyLits.calls k _ _ l1 t334 _ ?side1 ?side2 A4.out).mono ?_); (case side1 => exact cK (HR1.out)); (case side2 => exact HC1.out); rintro e w21 ⟨v335, rfl, ho0, hb⟩; refine ⟨_, rfl, ?_⟩; have n0_ := Aside0.mk (Kd.S_lower ho0 (below_size bB)); have n1_ := Aside0.mk (below_step bB hb); clear HB; have HO336 := n0_; have HB := n1_; clear n0_ n1_; (try clear hb); (try clear hb2); (try clear hk); (try clear hi); (try clear ho0)) | ((with_reducible refine gate_callee (f := 19) rfl ?_); refine goesL_ (some 18) rfl rfl Tryd.func19 (by kernel_rfl) rfl #[.slice A0 l0.length c0, .slice A1 l1.length c1] rfl mA ?_; (with_reducible refine (lit_Tops.calls (hG := gK) k _ _ l0 _ _ l1 t337 t338 _ ?side1 ?side2 ?side3 ?side4 A5.out).mono ?_); (case side1 => exact cK (Kd.C_below HR0.out HB.out)); (case side2 => exact HC0.out); (case side3 => exact cK (Kd.C_below HR1.out HB.out)); (case side4 => exact HC1.out); rintro e w22 ⟨v339, rfl, ho0, hb⟩; refine ⟨_, rfl, ?_⟩; have n0_ := Aside0.mk (Kd.S_elder' (by (with_reducible repeat (first | apply Kd.S_alloc | apply Kd.S_drewN | apply Kd.S_drew)); exact HO336.out) (Kd.R_base ho0) hb); have n1_ := Aside0.mk (Kd.R_lower ho0 (below_size bB)); have n2_ := Aside0.mk (below_step bB hb); clear HO336; clear HB; have HO336 := n0_; have HO340 := n1_; have HB := n2_; clear n0_ n1_ n2_; (try clear hb); (try clear hb2); (try clear hk); (try clear hi); (try clear ho0)) | ((with_reducible refine gate_callee (f := 20) rfl ?_); refine goesL_ (some 24) rfl rfl Tryd.func20 (by kernel_rfl) rfl #[.slice A0 l0.length c0, .slice A1 l1.length c1] rfl mA ?_; (with_reducible refine (quaereref8_Tops.calls k _ _ l0 _ _ l1 t341 t342 _ ?side1 ?side2 ?side3 ?side4 A6.out).mono ?_); (case side1 => exact cK (Kd.C_below HR0.out HB.out)); (case side2 => exact HC0.out); (case side3 => exact cK (Kd.C_below HR1.out HB.out)); (case side4 => exact HC1.out); rintro e w23 ⟨v343, rfl, ho0, hb⟩; refine ⟨_, rfl, ?_⟩; have n0_ := Aside0.mk (Kd.S_elder' (by (with_reducible repeat (first | apply Kd.S_alloc | apply Kd.S_drewN | apply Kd.S_drew)); exact HO336.out) (Kd.R_base ho0) hb); have n1_ := Aside0.mk (Kd.R_elder' (rK HO340) (Kd.R_base ho0) hb); have n2_ := Aside0.mk (Kd.R_lower (Kd.R_new' ho0 (Kd.R_lt (rK HO340))) (below_size bB)); have n3_ := Aside0.mk (below_step bB hb); clear HO336; clear HO340; clear HB; have HO336 := n0_; have HO340 := n1_; have HO344 := n2_; have HB := n3_; clear n0_ n1_ n2_ n3_; (try clear hb); (try clear hb2); (try clear hk); (try clear hi); (try clear ho0); obtain ⟨Ao24, co24, eo24⟩ := Kd.R_slice HO340.out; subst eo24; obtain ⟨Ao25, co25, eo25⟩ := Kd.R_slice HO344.out; subst eo25) | ((with_reducible refine gate_callee (f := 21) rfl ?_); refine goesL_ (some 29) rfl rfl Tryd.func21 (by kernel_rfl) rfl #[.slice Ao24 t337.length co24, .slice Ao25 t341.length co25] rfl mA ?_; (with_reducible refine (quaerelaw0_SameInts.calls k _ _ t337 _ _ t341 true _ ?side1 ?side2 ?side3 ?side4 A7.out).mono ?_); (case side1 => exact cK ((Kd.R_reads' HO340.out).2.2)); (case side2 => exact (Kd.R_reads' HO340.out).2.1); (case side3 => exact cK ((Kd.R_reads' HO344.out).2.2)); (case side4 => exact (Kd.R_reads' HO344.out).2.1); rintro e w' ⟨rfl, ⟨nd, rfl⟩⟩; refine ⟨_, rfl, ?_⟩) | (go_at_call 16; (with_reducible refine (quaerelaw0_Num.calls t338 t346 _ A9.out).mono ?_); rintro e w' ⟨rfl, ⟨nd, rfl⟩⟩; obtain ⟨Ao26, co26, eo26⟩ := Kd.S_slice HO336.out; subst eo26) | (go_at_call 17; (with_reducible refine (quaerelaw0_SameLits.calls k _ _ t334 _ _ l1 false _ ?side1 ?side2 ?side3 ?side4 A11.out).mono ?_); (case side1 => exact cK ((Kd.S_reads' HO336.out).2.2)); (case side2 => exact (Kd.S_reads' HO336.out).2.1); (case side3 => exact cK (Kd.C_below HR1.out bB)); (case side4 => exact HC1.out); rintro e w' ⟨rfl, ⟨nd, rfl⟩⟩))
     go_ret
     exact ⟨eK, bB⟩
   ·rw [if_neg c10] at H
    have c10b0 : (t346 == t342) = false := beq_eq_false_iff_ne.mpr c10
    have c10b1 : (t346 != t342) = true := bne_iff_ne.mpr c10
    obtain rfl := Option.some.inj H
    go_enter Tryd.func4, Tryd.ntmps4
    go_wp2_with (first | ((with_reducible refine gate_callee (f := 9) rfl ?_); refine goesL_ (some 14) rfl rfl Tryd.func9 (by kernel_rfl) rfl #[.slice A1 l1.length c1] rfl mA ?_; (with_reducible refine (quaerelaw0_CopyLits.calls k _ _ l1 t334 _ ?side1 ?side2 A4.out).mono ?_); (case side1 => exact cK (HR1.out)); (case side2 => exact HC1.out); rintro e w27 ⟨v335, rfl, ho0, hb⟩; refine ⟨_, rfl, ?_⟩; have n0_ := Aside0.mk (Kd.S_lower ho0 (below_size bB)); have n1_ := Aside0.mk (below_step bB hb); clear HB; have HO336 := n0_; have HB := n1_; clear n0_ n1_; (try clear hb); (try clear hb2); (try clear hk); (try clear hi); (try clear ho0)) | ((with_reducible refine gate_callee (f := 19) rfl ?_); refine goesL_ (some 18) rfl rfl Tryd.func19 (by kernel_rfl) rfl #[.slice A0 l0.length c0, .slice A1 l1.length c1] rfl mA ?_; (with_reducible refine (lit_Tops.calls (hG := gK) k _ _ l0 _ _ l1 t337 t338 _ ?side1 ?side2 ?side3 ?side4 A5.out).mono ?_); (case side1 => exact cK (Kd.C_below HR0.out HB.out)); (case side2 => exact HC0.out); (case side3 => exact cK (Kd.C_below HR1.out HB.out)); (case side4 => exact HC1.out); rintro e w28 ⟨v339, rfl, ho0, hb⟩; refine ⟨_, rfl, ?_⟩; have n0_ := Aside0.mk (Kd.S_elder' (by (with_reducible repeat (first | apply Kd.S_alloc | apply Kd.S_drewN | apply Kd.S_drew)); exact HO336.out) (Kd.R_base ho0) hb); have n1_ := Aside0.mk (Kd.R_lower ho0 (below_size bB)); have n2_ := Aside0.mk (below_step bB hb); clear HO336; clear HB; have HO336 := n0_; have HO340 := n1_; have HB := n2_; clear n0_ n1_ n2_; (try clear hb); (try clear hb2); (try clear hk); (try clear hi); (try clear ho0)) | ((with_reducible refine gate_callee (f := 20) rfl ?_); refine goesL_ (some 24) rfl rfl Tryd.func20 (by kernel_rfl) rfl #[.slice A0 l0.length c0, .slice A1 l1.length c1] rfl mA ?_; (with_reducible refine (quaereref8_Tops.calls k _ _ l0 _ _ l1 t341 t342 _ ?side1 ?side2 ?side3 ?side4 A6.out).mono ?_); (case side1 => exact cK (Kd.C_below HR0.out HB.out)); (case side2 => exact HC0.out); (case side3 => exact cK (Kd.C_below HR1.out HB.out)); (case side4 => exact HC1.out); rintro e w29 ⟨v343, rfl, ho0, hb⟩; refine ⟨_, rfl, ?_⟩; have n0_ := Aside0.mk (Kd.S_elder' (by (with_reducible repeat (first | apply Kd.S_alloc | apply Kd.S_drewN | apply Kd.S_drew)); exact HO336.out) (Kd.R_base ho0) hb); have n1_ := Aside0.mk (Kd.R_elder' (rK HO340) (Kd.R_base ho0) hb); have n2_ := Aside0.mk (Kd.R_lower (Kd.R_new' ho0 (Kd.R_lt (rK HO340))) (below_size bB)); have n3_ := Aside0.mk (below_step bB hb); clear HO336; clear HO340; clear HB; have HO336 := n0_; have HO340 := n1_; have HO344 := n2_; have HB := n3_; clear n0_ n1_ n2_ n3_; (try clear hb); (try clear hb2); (try clear hk); (try clear hi); (try clear ho0); obtain ⟨Ao30, co30, eo30⟩ := Kd.R_slice HO340.out; subst eo30; obtain ⟨Ao31, co31, eo31⟩ := Kd.R_slice HO344.out; subst eo31) | ((with_reducible refine gate_callee (f := 21) rfl ?_); refine goesL_ (some 29) rfl rfl Tryd.func21 (by kernel_rfl) rfl #[.slice Ao30 t337.length co30, .slice Ao31 t341.length co31] rfl mA ?_; (with_reducible refine (quaerelaw0_SameInts.calls k _ _ t337 _ _ t341 true _ ?side1 ?side2 ?side3 ?side4 A7.out).mono ?_); (case side1 => exact cK ((Kd.R_reads' HO340.out).2.2)); (case side2 => exact (Kd.R_reads' HO340.out).2.1); (case side3 => exact cK ((Kd.R_reads' HO344.out).2.2)); (case side4 => exact (Kd.R_reads' HO344.out).2.1); rintro e w' ⟨rfl, ⟨nd, rfl⟩⟩; refine ⟨_, rfl, ?_⟩) | (go_at_call 16; (with_reducible refine (quaerelaw0_Num.calls t338 t346 _ A9.out).mono ?_); rintro e w' ⟨rfl, ⟨nd, rfl⟩⟩))
    go_ret
    exact ⟨eK, bB⟩
  ·replace c8 := Bool.eq_false_iff.mpr c8
   subst c8
   have H1 : (some false) = some r := by rw [if_neg (show ¬ (false = true) by decide)] at H; exact H
   clear H
   have H := H1
   clear H1
   obtain rfl := Option.some.inj H
   go_enter Tryd.func4, Tryd.ntmps4
   go_wp2_with (first | ((with_reducible refine gate_callee (f := 9) rfl ?_); refine goesL_ (some 14) rfl rfl Tryd.func9 (by kernel_rfl) rfl #[.slice A1 l1.length c1] rfl mA ?_; (with_reducible refine (quaerelaw0_CopyLits.calls k _ _ l1 t334 _ ?side1 ?side2 A4.out).mono ?_); (case side1 => exact cK (HR1.out)); (case side2 => exact HC1.out); rintro e w32 ⟨v335, rfl, ho0, hb⟩; refine ⟨_, rfl, ?_⟩; have n0_ := Aside0.mk (Kd.S_lower ho0 (below_size bB)); have n1_ := Aside0.mk (below_step bB hb); clear HB; have HO336 := n0_; have HB := n1_; clear n0_ n1_; (try clear hb); (try clear hb2); (try clear hk); (try clear hi); (try clear ho0)) | ((with_reducible refine gate_callee (f := 19) rfl ?_); refine goesL_ (some 18) rfl rfl Tryd.func19 (by kernel_rfl) rfl #[.slice A0 l0.length c0, .slice A1 l1.length c1] rfl mA ?_; (with_reducible refine (lit_Tops.calls (hG := gK) k _ _ l0 _ _ l1 t337 t338 _ ?side1 ?side2 ?side3 ?side4 A5.out).mono ?_); (case side1 => exact cK (Kd.C_below HR0.out HB.out)); (case side2 => exact HC0.out); (case side3 => exact cK (Kd.C_below HR1.out HB.out)); (case side4 => exact HC1.out); rintro e w33 ⟨v339, rfl, ho0, hb⟩; refine ⟨_, rfl, ?_⟩; have n0_ := Aside0.mk (Kd.S_elder' (by (with_reducible repeat (first | apply Kd.S_alloc | apply Kd.S_drewN | apply Kd.S_drew)); exact HO336.out) (Kd.R_base ho0) hb); have n1_ := Aside0.mk (Kd.R_lower ho0 (below_size bB)); have n2_ := Aside0.mk (below_step bB hb); clear HO336; clear HB; have HO336 := n0_; have HO340 := n1_; have HB := n2_; clear n0_ n1_ n2_; (try clear hb); (try clear hb2); (try clear hk); (try clear hi); (try clear ho0)) | ((with_reducible refine gate_callee (f := 20) rfl ?_); refine goesL_ (some 24) rfl rfl Tryd.func20 (by kernel_rfl) rfl #[.slice A0 l0.length c0, .slice A1 l1.length c1] rfl mA ?_; (with_reducible refine (quaereref8_Tops.calls k _ _ l0 _ _ l1 t341 t342 _ ?side1 ?side2 ?side3 ?side4 A6.out).mono ?_); (case side1 => exact cK (Kd.C_below HR0.out HB.out)); (case side2 => exact HC0.out); (case side3 => exact cK (Kd.C_below HR1.out HB.out)); (case side4 => exact HC1.out); rintro e w34 ⟨v343, rfl, ho0, hb⟩; refine ⟨_, rfl, ?_⟩; have n0_ := Aside0.mk (Kd.S_elder' (by (with_reducible repeat (first | apply Kd.S_alloc | apply Kd.S_drewN | apply Kd.S_drew)); exact HO336.out) (Kd.R_base ho0) hb); have n1_ := Aside0.mk (Kd.R_elder' (rK HO340) (Kd.R_base ho0) hb); have n2_ := Aside0.mk (Kd.R_lower (Kd.R_new' ho0 (Kd.R_lt (rK HO340))) (below_size bB)); have n3_ := Aside0.mk (below_step bB hb); clear HO336; clear HO340; clear HB; have HO336 := n0_; have HO340 := n1_; have HO344 := n2_; have HB := n3_; clear n0_ n1_ n2_ n3_; (try clear hb); (try clear hb2); (try clear hk); (try clear hi); (try clear ho0); obtain ⟨Ao35, co35, eo35⟩ := Kd.R_slice HO340.out; subst eo35; obtain ⟨Ao36, co36, eo36⟩ := Kd.R_slice HO344.out; subst eo36) | ((with_reducible refine gate_callee (f := 21) rfl ?_); refine goesL_ (some 29) rfl rfl Tryd.func21 (by kernel_rfl) rfl #[.slice Ao35 t337.length co35, .slice Ao36 t341.length co36] rfl mA ?_; (with_reducible refine (quaerelaw0_SameInts.calls k _ _ t337 _ _ t341 false _ ?side1 ?side2 ?side3 ?side4 A7.out).mono ?_); (case side1 => exact cK ((Kd.R_reads' HO340.out).2.2)); (case side2 => exact (Kd.R_reads' HO340.out).2.1); (case side3 => exact cK ((Kd.R_reads' HO344.out).2.2)); (case side4 => exact (Kd.R_reads' HO344.out).2.1); rintro e w' ⟨rfl, ⟨nd, rfl⟩⟩; refine ⟨_, rfl, ?_⟩))
   go_ret
   exact ⟨eK, bB⟩

end Go.Proofs.YtfnemhkiopgeaaaDoor.PL
