-- written by a program of this session's (wip/tools/pp.py), after the kit's print
import Derived.Test.YteffiodbflmfkaaDoorPPx0
import Derived.Test.YteffiodbflmfkaaDoorPPx3
namespace Go.Proofs.YteffiodbflmfkaaDoor.PP
open Go.RowKit Go.Proofs.YteffiodbflmfkaaDoorW.PrintWords Go.Proofs.YteffiodbflmfkaaDoorW.PrintLast Go.Proofs.YteffiodbflmfkaaDoorW.PrintMore
attribute [local go_sem] jump_ret jumpE_ret max2_int min2_int max_two min_two max_three min_three max_four min_four   -- for this text's walks alone
set_option linter.unusedVariables false
set_option linter.unusedSimpArgs false

/-! ### term_IsAtom: function 37 -/
def term_IsAtom.f (k : Nat) (l0 : List (S59)) (l1 : List Int) : Option (Bool) := if (l1.length : Int) = 0 then (some false) else (if 0 < (l1.length : Int) then (if (rd l1 0) < 0 then (some false) else (if (rd l1 0) ≥ (l0.length : Int) then (some false) else (if 0 ≤ (rd l1 0) then (if (rd l1 0) < (l0.length : Int) then (if ((rd_T59 l0 (rd l1 0)).f1) = 0 then (if 1 ≤ (l1.length : Int) then ((term_begins.f k l0 (l1.drop 1)).bind fun bt150 => (if bt150.2 = true then (some ((bt150.1.length : Int) == ((rd_T59 l0 (rd l1 0)).f2))) else (some false))) else (none)) else (some false)) else (none)) else (none)))) else (none))
theorem term_IsAtom.mono : ∀ a0 a1 k, LeO (term_IsAtom.f k a0 a1) (term_IsAtom.f (k + 1) a0 a1) := by
 intro a0 a1 k
 unfold term_IsAtom.f
 repeat' first
   | (with_reducible exact term_begins.mono _ _ _)
   | (with_reducible exact LeO.refl _)
   | (with_reducible exact LeO.none _)
   | (with_reducible refine LeO.ite ?_ ?_)
   | (with_reducible refine LeO.bind ?_ (fun _ => ?_))
   | exact term_begins.mono _ _ _
   | exact LeO.none _
   | refine LeO.ite ?_ ?_
   | refine LeO.bind ?_ (fun _ => ?_)
set_option maxHeartbeats 8000000 in
set_option maxRecDepth 100000 in
theorem term_IsAtom.calls (k : Nat) (A0 : Option Addr) (c0 : Nat) (l0 : List (S59)) (A1 : Option Addr) (c1 : Nat) (l1 : List Int) (r : Bool) (w : World) (hr0 : Kd.C k59 w A0 l0.length l0) (hc0 : l0.length ≤ c0) (hr1 : Kd.C (Kd.int .i64) w A1 l1.length l1) (hc1 : l1.length ≤ c1) (h : term_IsAtom.f k l0 l1 = some r) (hG : Glob w) :
  Calls Tryd.prog 37 #[.slice A0 l0.length c0, .slice A1 l1.length c1] w fun e w' => e = .returned (.bool r) ∧ Below w.heap.size w w' := by
 have HR0 := Aside0.mk hr0
 have HC0 := Aside0.mk hc0
 clear hr0 hc0
 have HR1 := Aside0.mk hr1
 have HC1 := Aside0.mk hc1
 clear hr1 hc1
 have HB := Aside0.mk (Below.refl w.heap.size w)
 have H : (if (l1.length : Int) = 0 then (some false) else (if 0 < (l1.length : Int) then (if (rd l1 0) < 0 then (some false) else (if (rd l1 0) ≥ (l0.length : Int) then (some false) else (if 0 ≤ (rd l1 0) then (if (rd l1 0) < (l0.length : Int) then (if ((rd_T59 l0 (rd l1 0)).f1) = 0 then (if 1 ≤ (l1.length : Int) then ((term_begins.f k l0 (l1.drop 1)).bind fun bt150 => (if bt150.2 = true then (some ((bt150.1.length : Int) == ((rd_T59 l0 (rd l1 0)).f2))) else (some false))) else (none)) else (some false)) else (none)) else (none)))) else (none))) = some r := h
 clear h
 by_cases c3 : (l1.length : Int) = 0
 ·rw [if_pos c3] at H
  have c3b0 : ((l1.length : Int) == 0) = true := beq_iff_eq.mpr c3
  have c3b1 : ((l1.length : Int) != 0) = false := bne_eq_false_iff_eq.mpr c3
  clear c3
  obtain rfl := Option.some.inj H
  go_enter Tryd.func37, Tryd.ntmps37
  go_wp2
  go_ret
  exact ⟨eK, bB⟩
 ·rw [if_neg c3] at H
  have c3b0 : ((l1.length : Int) == 0) = false := beq_eq_false_iff_ne.mpr c3
  have c3b1 : ((l1.length : Int) != 0) = true := bne_iff_ne.mpr c3
  have c3b2 : ¬ (l1 = []) := fun h_ => c3 (by rw [h_]; rfl)
  by_cases c4 : 0 < (l1.length : Int)
  ·rw [if_pos c4] at H
   have c4b0 : decide (0 < (l1.length : Int)) = true := decide_eq_true c4
   have c4b1 : decide (0 < l1.length) = true := decide_eq_true (by omega)
   clear c4
   by_cases c5 : (rd l1 0) < 0
   ·rw [if_pos c5] at H
    have c5b0 : decide ((rd l1 0) < 0) = true := decide_eq_true c5
    clear c5
    obtain rfl := Option.some.inj H
    have p145 : 0 ≤ (0 : Int) := (by omega)
    have q145 : 0 < (l1.length : Int) := of_decide_eq_true aK
    obtain ⟨ad145, e145, hx145_0⟩ := Kd.at_int HR1.out 0 p145 q145
    cases e145
    have qi145 : (0 < l1.length) = True := eq_true (by omega)
    (try rw [show ((0 : Int)).toNat = 0 from rfl] at hx145_0)
    (try rw [Addr.add_zero'] at hx145_0)
    replace p145 := eq_true p145
    replace q145 := eq_true q145
    go_enter Tryd.func37, Tryd.ntmps37
    go_wp2
    go_ret
    exact ⟨eK, bB⟩
   ·rw [if_neg c5] at H
    have c5b0 : decide ((rd l1 0) < 0) = false := decide_eq_false c5
    clear c5
    by_cases c6 : (rd l1 0) ≥ (l0.length : Int)
    ·rw [if_pos c6] at H
     have c6b0 : decide ((l0.length : Int) ≤ (rd l1 0)) = true := decide_eq_true c6
     clear c6
     obtain rfl := Option.some.inj H
     have p145 : 0 ≤ (0 : Int) := (by omega)
     have q145 : 0 < (l1.length : Int) := of_decide_eq_true aK
     obtain ⟨ad145, e145, hx145_0⟩ := Kd.at_int HR1.out 0 p145 q145
     cases e145
     have qi145 : (0 < l1.length) = True := eq_true (by omega)
     (try rw [show ((0 : Int)).toNat = 0 from rfl] at hx145_0)
     (try rw [Addr.add_zero'] at hx145_0)
     replace p145 := eq_true p145
     replace q145 := eq_true q145
     have p146 : 0 ≤ (0 : Int) := (by omega)
     have q146 : 0 < (l1.length : Int) := of_decide_eq_true aK
     obtain ⟨ad146, e146, hx146_0⟩ := Kd.at_int HR1.out 0 p146 q146
     obtain rfl : ad145 = ad146 := (by injection e146)
     have qi146 : (0 < l1.length) = True := eq_true (by omega)
     (try rw [show ((0 : Int)).toNat = 0 from rfl] at hx146_0)
     (try rw [Addr.add_zero'] at hx146_0)
     replace p146 := eq_true p146
     replace q146 := eq_true q146
     go_enter Tryd.func37, Tryd.ntmps37
     go_wp2
     go_ret
     exact ⟨eK, bB⟩
    ·rw [if_neg c6] at H
     have c6b0 : decide ((l0.length : Int) ≤ (rd l1 0)) = false := decide_eq_false c6
     clear c6
     by_cases c7 : 0 ≤ (rd l1 0)
     ·rw [if_pos c7] at H
      have c7b0 : decide (0 ≤ (rd l1 0)) = true := decide_eq_true c7
      clear c7
      by_cases c8 : (rd l1 0) < (l0.length : Int)
      ·rw [if_pos c8] at H
       have c8b0 : decide ((rd l1 0) < (l0.length : Int)) = true := decide_eq_true c8
       clear c8
       by_cases c9 : ((rd_T59 l0 (rd l1 0)).f1) = 0
       ·rw [if_pos c9] at H
        have c9b0 : (((rd_T59 l0 (rd l1 0)).f1) == 0) = true := beq_iff_eq.mpr c9
        have c9b1 : (((rd_T59 l0 (rd l1 0)).f1) != 0) = false := bne_eq_false_iff_eq.mpr c9
        clear c9
        by_cases c10 : 1 ≤ (l1.length : Int)
        ·rw [if_pos c10] at H
         have c10b0 := eq_true c10
         have c10b1 : decide (1 ≤ (l1.length : Int)) = true := decide_eq_true c10
         clear c10
         replace H := Option.bind_eq_some_iff.mp H
         obtain ⟨⟨t150, t151⟩, A110, H⟩ := H
         replace H : (if t151 = true then (some ((t150.length : Int) == ((rd_T59 l0 (rd l1 0)).f2))) else (some false)) = some r := H
         have A11 := Aside0.mk A110
         clear A110
         by_cases c12 : t151 = true
         ·subst c12
          have H1 : (some ((t150.length : Int) == ((rd_T59 l0 (rd l1 0)).f2))) = some r := by rw [if_pos rfl] at H; exact H
          clear H
          have H := H1
          clear H1
          obtain rfl := Option.some.inj H
          have p145 : 0 ≤ (0 : Int) := (by omega)
          have q145 : 0 < (l1.length : Int) := of_decide_eq_true aK
          obtain ⟨ad145, e145, hx145_0⟩ := Kd.at_int HR1.out 0 p145 q145
          cases e145
          have qi145 : (0 < l1.length) = True := eq_true (by omega)
          (try rw [show ((0 : Int)).toNat = 0 from rfl] at hx145_0)
          (try rw [Addr.add_zero'] at hx145_0)
          replace p145 := eq_true p145
          replace q145 := eq_true q145
          have p146 : 0 ≤ (0 : Int) := (by omega)
          have q146 : 0 < (l1.length : Int) := of_decide_eq_true aK
          obtain ⟨ad146, e146, hx146_0⟩ := Kd.at_int HR1.out 0 p146 q146
          obtain rfl : ad145 = ad146 := (by injection e146)
          have qi146 : (0 < l1.length) = True := eq_true (by omega)
          (try rw [show ((0 : Int)).toNat = 0 from rfl] at hx146_0)
          (try rw [Addr.add_zero'] at hx146_0)
          replace p146 := eq_true p146
          replace q146 := eq_true q146
          have p147 : 0 ≤ (0 : Int) := (by omega)
          have q147 : 0 < (l1.length : Int) := of_decide_eq_true aK
          obtain ⟨ad147, e147, hx147_0⟩ := Kd.at_int HR1.out 0 p147 q147
          obtain rfl : ad145 = ad147 := (by injection e147)
          have qi147 : (0 < l1.length) = True := eq_true (by omega)
          (try rw [show ((0 : Int)).toNat = 0 from rfl] at hx147_0)
          (try rw [Addr.add_zero'] at hx147_0)
          replace p147 := eq_true p147
          replace q147 := eq_true q147
          have p148 : 0 ≤ ((rd l1 0) : Int) := of_decide_eq_true aK
          have q148 : (rd l1 0) < (l0.length : Int) := of_decide_eq_true aK
          obtain ⟨ad148, e148, hx148_0, hx148_1, hx148_2, hx148_3⟩ := at_T59 HR0.out (rd l1 0) p148 q148
          cases e148
          replace p148 := eq_true p148
          replace q148 := eq_true q148
          obtain ⟨i013, hi013, _, hsz13, _⟩ := info_parts info3
          obtain ⟨A13, hcut13, hA13, hC13⟩ := print_drop_of (P := Tryd.prog) (Value.int .i64) 0 23 3 .i64 Tryd.underlying23 hi013 hsz13 (some ad145) c1 l1 1 (by omega) (of_decide_eq_true aK) HC1.out
          have HR149 := Aside0.mk (Kd.C_of_reads (h1 := fun _ => rfl) (hA13 _ (Kd.reads_of_C HR1.out)))
          have HC149 := Aside0.mk hC13
          clear hA13 hC13 hi013 hsz13
          go_enter Tryd.func37, Tryd.ntmps37
          go_wp2_with (first | ((with_reducible refine gate_callee (f := 52) rfl ?_); refine goesL_ (some 38) rfl rfl Tryd.func52 (by kernel_rfl) rfl #[.slice (some ad148) l0.length c0, .slice A13 (l1.drop 1).length (c1 - 1)] rfl (by (try simp only [List.map_toArray, List.map_cons, List.map_nil]); first | done | (rw [show (l1.drop 1).length = (l1.length - 1) from List.length_drop] <;> rfl) | rfl | (simp only [List.length_drop, List.length_take]; rfl)) ?_; (with_reducible refine (term_begins.calls (hG := gK) k _ _ l0 _ _ (l1.drop 1) t150 true _ ?side1 ?side2 ?side3 ?side4 A11.out).mono ?_); (case side1 => exact cK (HR0.out)); (case side2 => exact HC0.out); (case side3 => exact cK (HR149.out)); (case side4 => exact HC149.out); rintro e w14 ⟨v152, rfl, ho0, hb⟩; refine ⟨_, rfl, ?_⟩; have n0_ := Aside0.mk (Kd.R_lower ho0 (below_size bB)); have n1_ := Aside0.mk (below_step bB hb); clear HB; have HO153 := n0_; have HB := n1_; clear n0_ n1_; (try clear hb); (try clear hb2); (try clear hk); (try clear hi); (try clear ho0); obtain ⟨Ao15, co15, eo15⟩ := Kd.R_slice HO153.out; subst eo15; have p154 : 0 ≤ (0 : Int) := (by omega); have q154 : 0 < (l1.length : Int) := of_decide_eq_true aK; obtain ⟨ad154, e154, hx154_0⟩ := Kd.at_int HR1.out 0 p154 q154; obtain rfl : ad145 = ad154 := (by injection e154); have qi154 : (0 < l1.length) = True := eq_true (by omega); (try rw [show ((0 : Int)).toNat = 0 from rfl] at hx154_0); (try rw [Addr.add_zero'] at hx154_0); replace hx154_0 := (HB.out.cell (World.block_lt_of_cell? w _ hx154_0)).trans hx154_0; replace p154 := eq_true p154; replace q154 := eq_true q154; have p155 : 0 ≤ ((rd l1 0) : Int) := of_decide_eq_true aK; have q155 : (rd l1 0) < (l0.length : Int) := of_decide_eq_true aK; obtain ⟨ad155, e155, hx155_0, hx155_1, hx155_2, hx155_3⟩ := at_T59 HR0.out (rd l1 0) p155 q155; obtain rfl : ad148 = ad155 := (by injection e155); replace hx155_0 := (HB.out.cell (World.block_lt_of_cell? w _ hx155_0)).trans hx155_0; replace hx155_1 := (HB.out.cell (World.block_lt_of_cell? w _ hx155_1)).trans hx155_1; replace hx155_2 := (HB.out.cell (World.block_lt_of_cell? w _ hx155_2)).trans hx155_2; replace hx155_3 := (HB.out.cell (World.block_lt_of_cell? w _ hx155_3)).trans hx155_3; replace p155 := eq_true p155; replace q155 := eq_true q155))
          go_ret
          exact ⟨eK, bB⟩
         ·replace c12 := Bool.eq_false_iff.mpr c12
          subst c12
          have H1 : (some false) = some r := by rw [if_neg (show ¬ (false = true) by decide)] at H; exact H
          clear H
          have H := H1
          clear H1
          obtain rfl := Option.some.inj H
          have p145 : 0 ≤ (0 : Int) := (by omega)
          have q145 : 0 < (l1.length : Int) := of_decide_eq_true aK
          obtain ⟨ad145, e145, hx145_0⟩ := Kd.at_int HR1.out 0 p145 q145
          cases e145
          have qi145 : (0 < l1.length) = True := eq_true (by omega)
          (try rw [show ((0 : Int)).toNat = 0 from rfl] at hx145_0)
          (try rw [Addr.add_zero'] at hx145_0)
          replace p145 := eq_true p145
          replace q145 := eq_true q145
          have p146 : 0 ≤ (0 : Int) := (by omega)
          have q146 : 0 < (l1.length : Int) := of_decide_eq_true aK
          obtain ⟨ad146, e146, hx146_0⟩ := Kd.at_int HR1.out 0 p146 q146
          obtain rfl : ad145 = ad146 := (by injection e146)
          have qi146 : (0 < l1.length) = True := eq_true (by omega)
          (try rw [show ((0 : Int)).toNat = 0 from rfl] at hx146_0)
          (try rw [Addr.add_zero'] at hx146_0)
          replace p146 := eq_true p146
          replace q146 := eq_true q146
          have p147 : 0 ≤ (0 : Int) := (by omega)
          have q147 : 0 < (l1.length : Int) := of_decide_eq_true aK
          obtain ⟨ad147, e147, hx147_0⟩ := Kd.at_int HR1.out 0 p147 q147
          obtain rfl : ad145 = ad147 := (by injection e147)
          have qi147 : (0 < l1.length) = True := eq_true (by omega)
          (try rw [show ((0 : Int)).toNat = 0 from rfl] at hx147_0)
          (try rw [Addr.add_zero'] at hx147_0)
          replace p147 := eq_true p147
          replace q147 := eq_true q147
          have p148 : 0 ≤ ((rd l1 0) : Int) := of_decide_eq_true aK
          have q148 : (rd l1 0) < (l0.length : Int) := of_decide_eq_true aK
          obtain ⟨ad148, e148, hx148_0, hx148_1, hx148_2, hx148_3⟩ := at_T59 HR0.out (rd l1 0) p148 q148
          cases e148
          replace p148 := eq_true p148
          replace q148 := eq_true q148
          obtain ⟨i016, hi016, _, hsz16, _⟩ := info_parts info3
          obtain ⟨A16, hcut16, hA16, hC16⟩ := print_drop_of (P := Tryd.prog) (Value.int .i64) 0 23 3 .i64 Tryd.underlying23 hi016 hsz16 (some ad145) c1 l1 1 (by omega) (of_decide_eq_true aK) HC1.out
          have HR149 := Aside0.mk (Kd.C_of_reads (h1 := fun _ => rfl) (hA16 _ (Kd.reads_of_C HR1.out)))
          have HC149 := Aside0.mk hC16
          clear hA16 hC16 hi016 hsz16
          go_enter Tryd.func37, Tryd.ntmps37
          go_wp2_with (first | ((with_reducible refine gate_callee (f := 52) rfl ?_); refine goesL_ (some 38) rfl rfl Tryd.func52 (by kernel_rfl) rfl #[.slice (some ad148) l0.length c0, .slice A16 (l1.drop 1).length (c1 - 1)] rfl (by (try simp only [List.map_toArray, List.map_cons, List.map_nil]); first | done | (rw [show (l1.drop 1).length = (l1.length - 1) from List.length_drop] <;> rfl) | rfl | (simp only [List.length_drop, List.length_take]; rfl)) ?_; (with_reducible refine (term_begins.calls (hG := gK) k _ _ l0 _ _ (l1.drop 1) t150 false _ ?side1 ?side2 ?side3 ?side4 A11.out).mono ?_); (case side1 => exact cK (HR0.out)); (case side2 => exact HC0.out); (case side3 => exact cK (HR149.out)); (case side4 => exact HC149.out); rintro e w17 ⟨v152, rfl, ho0, hb⟩; refine ⟨_, rfl, ?_⟩; have n0_ := Aside0.mk (Kd.R_lower ho0 (below_size bB)); have n1_ := Aside0.mk (below_step bB hb); clear HB; have HO153 := n0_; have HB := n1_; clear n0_ n1_; (try clear hb); (try clear hb2); (try clear hk); (try clear hi); (try clear ho0)))
          go_ret
          exact ⟨eK, bB⟩
        ·rw [if_neg c10] at H
         exact absurd H (by simp)
       ·rw [if_neg c9] at H
        have c9b0 : (((rd_T59 l0 (rd l1 0)).f1) == 0) = false := beq_eq_false_iff_ne.mpr c9
        have c9b1 : (((rd_T59 l0 (rd l1 0)).f1) != 0) = true := bne_iff_ne.mpr c9
        obtain rfl := Option.some.inj H
        have p145 : 0 ≤ (0 : Int) := (by omega)
        have q145 : 0 < (l1.length : Int) := of_decide_eq_true aK
        obtain ⟨ad145, e145, hx145_0⟩ := Kd.at_int HR1.out 0 p145 q145
        cases e145
        have qi145 : (0 < l1.length) = True := eq_true (by omega)
        (try rw [show ((0 : Int)).toNat = 0 from rfl] at hx145_0)
        (try rw [Addr.add_zero'] at hx145_0)
        replace p145 := eq_true p145
        replace q145 := eq_true q145
        have p146 : 0 ≤ (0 : Int) := (by omega)
        have q146 : 0 < (l1.length : Int) := of_decide_eq_true aK
        obtain ⟨ad146, e146, hx146_0⟩ := Kd.at_int HR1.out 0 p146 q146
        obtain rfl : ad145 = ad146 := (by injection e146)
        have qi146 : (0 < l1.length) = True := eq_true (by omega)
        (try rw [show ((0 : Int)).toNat = 0 from rfl] at hx146_0)
        (try rw [Addr.add_zero'] at hx146_0)
        replace p146 := eq_true p146
        replace q146 := eq_true q146
        have p147 : 0 ≤ (0 : Int) := (by omega)
        have q147 : 0 < (l1.length : Int) := of_decide_eq_true aK
        obtain ⟨ad147, e147, hx147_0⟩ := Kd.at_int HR1.out 0 p147 q147
        obtain rfl : ad145 = ad147 := (by injection e147)
        have qi147 : (0 < l1.length) = True := eq_true (by omega)
        (try rw [show ((0 : Int)).toNat = 0 from rfl] at hx147_0)
        (try rw [Addr.add_zero'] at hx147_0)
        replace p147 := eq_true p147
        replace q147 := eq_true q147
        have p148 : 0 ≤ ((rd l1 0) : Int) := of_decide_eq_true aK
        have q148 : (rd l1 0) < (l0.length : Int) := of_decide_eq_true aK
        obtain ⟨ad148, e148, hx148_0, hx148_1, hx148_2, hx148_3⟩ := at_T59 HR0.out (rd l1 0) p148 q148
        cases e148
        replace p148 := eq_true p148
        replace q148 := eq_true q148
        go_enter Tryd.func37, Tryd.ntmps37
        go_wp2
        go_ret
        exact ⟨eK, bB⟩
      ·rw [if_neg c8] at H
       exact absurd H (by simp)
     ·rw [if_neg c7] at H
      exact absurd H (by simp)
  ·rw [if_neg c4] at H
   exact absurd H (by simp)

/-! ### path_IsText: function 24 -/
def path_IsText.f (k : Nat) (l0 : List (S59)) (l1 : List Int) : Option (Bool) := (term_IsTerm.f k l0 l1).bind fun t156 => (if t156 = true then (some true) else ((term_IsAtom.f k l0 l1).bind fun t157 => (some t157)))
theorem path_IsText.mono : ∀ a0 a1 k, LeO (path_IsText.f k a0 a1) (path_IsText.f (k + 1) a0 a1) := by
 intro a0 a1 k
 unfold path_IsText.f
 repeat' first
   | (with_reducible exact term_IsAtom.mono _ _ _)
   | (with_reducible exact term_IsTerm.mono _ _ _)
   | (with_reducible exact LeO.refl _)
   | (with_reducible exact LeO.none _)
   | (with_reducible refine LeO.ite ?_ ?_)
   | (with_reducible refine LeO.bind ?_ (fun _ => ?_))
   | exact term_IsAtom.mono _ _ _
   | exact term_IsTerm.mono _ _ _
   | exact LeO.none _
   | refine LeO.ite ?_ ?_
   | refine LeO.bind ?_ (fun _ => ?_)
set_option maxHeartbeats 8000000 in
set_option maxRecDepth 100000 in
theorem path_IsText.calls (k : Nat) (A0 : Option Addr) (c0 : Nat) (l0 : List (S59)) (A1 : Option Addr) (c1 : Nat) (l1 : List Int) (r : Bool) (w : World) (hr0 : Kd.C k59 w A0 l0.length l0) (hc0 : l0.length ≤ c0) (hr1 : Kd.C (Kd.int .i64) w A1 l1.length l1) (hc1 : l1.length ≤ c1) (h : path_IsText.f k l0 l1 = some r) (hG : Glob w) :
  Calls Tryd.prog 24 #[.slice A0 l0.length c0, .slice A1 l1.length c1] w fun e w' => e = .returned (.bool r) ∧ Below w.heap.size w w' := by
 have HR0 := Aside0.mk hr0
 have HC0 := Aside0.mk hc0
 clear hr0 hc0
 have HR1 := Aside0.mk hr1
 have HC1 := Aside0.mk hc1
 clear hr1 hc1
 have HB := Aside0.mk (Below.refl w.heap.size w)
 have H : ((term_IsTerm.f k l0 l1).bind fun t156 => (if t156 = true then (some true) else ((term_IsAtom.f k l0 l1).bind fun t157 => (some t157)))) = some r := h
 clear h
 replace H := Option.bind_eq_some_iff.mp H
 obtain ⟨t156, A30, H⟩ := H
 replace H : (if t156 = true then (some true) else ((term_IsAtom.f k l0 l1).bind fun t157 => (some t157))) = some r := H
 have A3 := Aside0.mk A30
 clear A30
 by_cases c4 : t156 = true
 ·subst c4
  have H1 : (some true) = some r := by rw [if_pos rfl] at H; exact H
  clear H
  have H := H1
  clear H1
  obtain rfl := Option.some.inj H
  go_enter Tryd.func24, Tryd.ntmps24
  go_wp2_with (first | ((with_reducible refine gate_callee (f := 36) rfl ?_); refine goesL_ (some 7) rfl rfl Tryd.func36 (by kernel_rfl) rfl #[.slice A0 l0.length c0, .slice A1 l1.length c1] rfl mA ?_; (with_reducible refine (term_IsTerm.calls (hG := gK) k _ _ l0 _ _ l1 true _ ?side1 ?side2 ?side3 ?side4 A3.out).mono ?_); (case side1 => exact cK (HR0.out)); (case side2 => exact HC0.out); (case side3 => exact cK (HR1.out)); (case side4 => exact HC1.out); rintro e w5 ⟨rfl, hb⟩; refine ⟨_, rfl, ?_⟩; have n0_ := Aside0.mk (below_step bB hb); clear HB; have HB := n0_; clear n0_; (try clear hb); (try clear hb2); (try clear hk); (try clear hi)))
  go_ret
  exact ⟨eK, bB⟩
 ·replace c4 := Bool.eq_false_iff.mpr c4
  subst c4
  have H1 : ((term_IsAtom.f k l0 l1).bind fun t157 => (some t157)) = some r := by rw [if_neg (show ¬ (false = true) by decide)] at H; exact H
  clear H
  have H := H1
  clear H1
  replace H := Option.bind_eq_some_iff.mp H
  obtain ⟨t157, A60, H⟩ := H
  replace H : (some t157) = some r := H
  have A6 := Aside0.mk A60
  clear A60
  obtain rfl := Option.some.inj H
  go_enter Tryd.func24, Tryd.ntmps24
  go_wp2_with (first | ((with_reducible refine gate_callee (f := 36) rfl ?_); refine goesL_ (some 7) rfl rfl Tryd.func36 (by kernel_rfl) rfl #[.slice A0 l0.length c0, .slice A1 l1.length c1] rfl mA ?_; (with_reducible refine (term_IsTerm.calls (hG := gK) k _ _ l0 _ _ l1 false _ ?side1 ?side2 ?side3 ?side4 A3.out).mono ?_); (case side1 => exact cK (HR0.out)); (case side2 => exact HC0.out); (case side3 => exact cK (HR1.out)); (case side4 => exact HC1.out); rintro e w7 ⟨rfl, hb⟩; refine ⟨_, rfl, ?_⟩; have n0_ := Aside0.mk (below_step bB hb); clear HB; have HB := n0_; clear n0_; (try clear hb); (try clear hb2); (try clear hk); (try clear hi)) | (go_at_call 37; (with_reducible refine (term_IsAtom.calls (hG := gK) k _ _ l0 _ _ l1 t157 _ ?side1 ?side2 ?side3 ?side4 A6.out).mono ?_); (case side1 => exact cK (Kd.C_below HR0.out HB.out)); (case side2 => exact HC0.out); (case side3 => exact cK (Kd.C_below HR1.out HB.out)); (case side4 => exact HC1.out); rintro e w8 ⟨rfl, hb⟩; have n0_ := Aside0.mk (below_step bB hb); clear HB; have HB := n0_; clear n0_; (try clear hb); (try clear hb2); (try clear hk); (try clear hi)))
  go_ret
  exact ⟨eK, bB⟩

/-! ### slices_Clone_int_int: by hand: nil or not, the copy reads as the row -/
def slices_Clone_int_int.f (l0 : List Int) : Option (List Int) := if l0.length < 17592186044416 then some l0 else none
set_option maxHeartbeats 8000000 in
set_option maxRecDepth 100000 in
theorem slices_Clone_int_int.calls (A0 : Option Addr) (c0 : Nat) (l0 : List Int) (r : List Int) (w : World) (hr0 : Kd.C (Kd.int .i64) w A0 l0.length l0) (hc0 : l0.length ≤ c0) (h : slices_Clone_int_int.f l0 = some r) :
  Calls Tryd.prog 38 #[.slice A0 l0.length c0] w fun e w' => ∃ v0_ : Value, e = .returned (v0_) ∧ Kd.R (Kd.int .i64) 3 w' w.heap.size (fun _ => True) v0_ r ∧ Below w.heap.size w w' := by
 have qn : ∀ (w : World) (a : Option Addr) (n c n' c' : Nat), (binOp .eql 23 (.slice a n c) (.slice none n' c')).run Tryd.prog w = .ok (.bool a.isNone) w := fun w a n c n' c' => Lib.run_eql_slice_nil w _ _ a n c n' c' Tryd.underlying23
 have HR0 := Aside0.mk hr0
 have HC0 := Aside0.mk hc0
 have HB := Aside0.mk (Below.refl w.heap.size w)
 unfold slices_Clone_int_int.f at h
 split at h
 ·rename_i hlen
  obtain rfl := Option.some.inj h
  have HLEN := Aside0.mk hlen
  clear h hlen hc0
  cases A0 with
  | none =>
   have hl0 : l0 = [] := by
    rcases Nat.eq_zero_or_pos l0.length with h | h
    ·exact List.length_eq_zero_iff.1 h
    ·obtain ⟨ad, hh, _⟩ := hr0.2.2 h
     cases hh
   subst hl0
   clear hr0
   go_enter Tryd.func38, Tryd.ntmps38
   go_wp2
   go_ret
   exact ⟨_, rfl, Kd.R_nil _ _ _ _ _, HB.out⟩
  | some ad =>
   clear hr0
   go_enter Tryd.func38, Tryd.ntmps38
   go_wp2_with (first | ((with_reducible refine gate_dst (N := 5) rfl ?_); refine Kd.R_lit (Kd.int .i64) _ 3 ?hg (N := 5) ?hd (xs := ([] : List Int)) (inner := []) (ok := fun _ => True) (okp := fun _ => True) ?hr ?hp (fun _ hk => hk) trivial (Below.refl _ _) (Nat.le_refl _) (by simp) ?_; (case hd => rfl); (case hg => rfl); (case hr => first | (go_simp; done) | (go_simp; rfl)); (case hp => exact (Reps.none _ _)); intro v102 w3 ho4 hb hg_ hnew_; clear hg_ hnew_; have n0_ := Aside0.mk (Kd.R_lower ho4 (below_size bB)); have n1_ := Aside0.mk (below_step bB hb); clear HB; have HO103 := n0_; have HB := n1_; clear n0_ n1_; clear hb ho4) | ((with_reducible refine gate_builtin (b := .append) (xs := #[.tmp 5, .tmp 6]) rfl ?_); at_builtin; refine Kd.R_append_rows (Kd.int .i64) (w0 := w) w.heap.size rfl (.tmp 5) (.tmp 6) 23 3 (.int .i64 0) 8 rfl Tryd.underlying23 info3 rfl (by decide) (by omega) v102 [] l0 _ _ _ (fun _ => True) (fun _ => False) rfl rfl ?aO ?aR (fun _ _ h => h) (fun _ h => h.elim) ?aF ?aB ?aS ?aL ?_; (case aR => exact (Kd.C_below HR0.out HB.out)); (case aB => exact HB.out); (case aF => exact (fun _ _ => trivial)); (case aO => exact HO103.out); (case aS => exact (below_size HB.out)); (case aL => have := HLEN.out; simp; omega); intro v105 w5 ho hb hg hat; rw [List.nil_append] at ho; have n0_ := Aside0.mk (hb); have n1_ := Aside0.mk (ho); clear HB; clear HO103; have HB := n0_; have HO106 := n1_; clear n0_ n1_; clear ho hb hg hat))
   go_ret
   exact ⟨_, rfl, HO106.out, HB.out⟩
 ·cases h

/-! ### path_arity: function 39 -/
def path_arity.f (l0 : List (S59)) (a1 : Int) : Option (Int) := if a1 < 0 then (some 0) else (if 0 ≤ a1 then (if a1 < (l0.length : Int) then (some ((rd_T59 l0 a1).f2)) else (none)) else (none))
set_option maxHeartbeats 8000000 in
set_option maxRecDepth 100000 in
theorem path_arity.calls (A0 : Option Addr) (c0 : Nat) (l0 : List (S59)) (a1 : Int) (r : Int) (w : World) (hr0 : Kd.C k59 w A0 l0.length l0) (hc0 : l0.length ≤ c0) (h : path_arity.f l0 a1 = some r) :
  Calls Tryd.prog 39 #[.slice A0 l0.length c0, .int .i64 a1] w fun e w' => e = .returned (.int .i64 r) ∧ Drawn0 w w' := by
 have HR0 := Aside0.mk hr0
 have HC0 := Aside0.mk hc0
 clear hr0 hc0
 have H : (if a1 < 0 then (some 0) else (if 0 ≤ a1 then (if a1 < (l0.length : Int) then (some ((rd_T59 l0 a1).f2)) else (none)) else (none))) = some r := h
 clear h
 by_cases c3 : a1 < 0
 ·rw [if_pos c3] at H
  have c3b0 : decide (a1 < 0) = true := decide_eq_true c3
  clear c3
  obtain rfl := Option.some.inj H
  go_enter Tryd.func39, Tryd.ntmps39
  go_wp2
  go_ret
  exact ⟨sK, by repeat (first | exact Drawn0.refl _ | apply Drawn0.step)⟩
 ·rw [if_neg c3] at H
  have c3b0 : decide (a1 < 0) = false := decide_eq_false c3
  clear c3
  by_cases c4 : 0 ≤ a1
  ·rw [if_pos c4] at H
   have c4b0 : decide (0 ≤ a1) = true := decide_eq_true c4
   clear c4
   by_cases c5 : a1 < (l0.length : Int)
   ·rw [if_pos c5] at H
    have c5b0 : decide (a1 < (l0.length : Int)) = true := decide_eq_true c5
    clear c5
    obtain rfl := Option.some.inj H
    have p158 : 0 ≤ (a1 : Int) := of_decide_eq_true aK
    have q158 : a1 < (l0.length : Int) := of_decide_eq_true aK
    obtain ⟨ad158, e158, hx158_0, hx158_1, hx158_2, hx158_3⟩ := at_T59 HR0.out a1 p158 q158
    cases e158
    replace p158 := eq_true p158
    replace q158 := eq_true q158
    go_enter Tryd.func39, Tryd.ntmps39
    go_wp2
    go_ret
    exact ⟨sK, by repeat (first | exact Drawn0.refl _ | apply Drawn0.step)⟩
   ·rw [if_neg c5] at H
    exact absurd H (by simp)
  ·rw [if_neg c4] at H
   exact absurd H (by simp)

end Go.Proofs.YteffiodbflmfkaaDoor.PP
