-- written by a program of this session's (wip/tools/pp.py), after the kit's print
import Derived.Test.YtohclkafdphleaaDoorPUx0
import Derived.Test.YtohclkafdphleaaDoorPUx4
import Derived.Test.YtohclkafdphleaaDoorPUx5
import Derived.Test.YtohclkafdphleaaDoorPUx6
import Derived.Test.YtohclkafdphleaaDoorPUx7
namespace Go.Proofs.YtohclkafdphleaaDoor.PU
open Go.RowKit Go.Proofs.YtohclkafdphleaaDoorW.PrintWords Go.Proofs.YtohclkafdphleaaDoorW.PrintLast Go.Proofs.YtohclkafdphleaaDoorW.PrintMore
attribute [local go_sem] jump_ret max2_int min2_int max_two min_two max_three min_three max_four min_four   -- for this text's walks alone
set_option linter.unusedVariables false
set_option linter.unusedSimpArgs false

/-! ### quaerelaw5_MatchUnify: function 8 -/
noncomputable def quaerelaw5_MatchUnify.l0 : Nat → List (S73) → List Int → List Int → Int → Option (Bool)
 | 0, _, _, _, _ => none
 | k + 1, x0, x1, x2, x7 => if x7 < (x2.length : Int) then (if 0 ≤ x7 then (if (rd x2 x7) < 0 then (some true) else (quaerelaw5_MatchUnify.l0 k x0 x1 x2 (wrap64 (x7 + 1)))) else (none)) else ((match_Match.f x0 x1 x2).bind fun bt224 => ((unify_Unify.f x0 x1 x2).bind fun bt229 => ((quaerelaw0_Num.f bt224.2.2).bind fun t234 => (if t234 = 0 then ((quaerelaw0_Num.f bt229.2.2).bind fun t235 => (if t235 = 0 then (if (bt224.2.1 == bt229.2.1) = true then ((quaerelaw0_SameBinds.f k bt224.1 bt229.1).bind fun t236 => (some t236)) else (some false)) else (some false))) else ((quaerelaw0_Num.f bt229.2.2).bind fun t237 => (some (t237 == 400)))))))
noncomputable def quaerelaw5_MatchUnify.f (k : Nat) (l0 : List (S73)) (l1 : List Int) (l2 : List Int) : Option (Bool) := (quaerelaw5_awake.f k).bind fun t222 => (if t222 = true then (quaerelaw5_MatchUnify.l0 k l0 l1 l2 0) else (some false))
theorem quaerelaw5_MatchUnify.mono_l : ∀ k, (∀ y0 y1 y2 y3, LeO (quaerelaw5_MatchUnify.l0 k y0 y1 y2 y3) (quaerelaw5_MatchUnify.l0 (k + 1) y0 y1 y2 y3))
 | 0 => fun _ _ _ _ r h => by simp [quaerelaw5_MatchUnify.l0] at h
 | k + 1 => by
  have ih0 := quaerelaw5_MatchUnify.mono_l k
  ·intro y0 y1 y2 y3
   unfold quaerelaw5_MatchUnify.l0
   repeat' first
   | (with_reducible exact ih0 _ _ _ _)
   | (with_reducible exact quaerelaw0_SameBinds.mono _ _ _)
   | (with_reducible exact quaerelaw5_awake.mono _)
   | (with_reducible exact LeO.refl _)
   | (with_reducible exact LeO.none _)
   | (with_reducible refine LeO.ite ?_ ?_)
   | (with_reducible refine LeO.bind ?_ (fun _ => ?_))
   | exact ih0 _ _ _ _
   | exact quaerelaw0_SameBinds.mono _ _ _
   | exact quaerelaw5_awake.mono _
   | exact LeO.none _
   | refine LeO.ite ?_ ?_
   | refine LeO.bind ?_ (fun _ => ?_)
theorem quaerelaw5_MatchUnify.mono : ∀ a0 a1 a2 k, LeO (quaerelaw5_MatchUnify.f k a0 a1 a2) (quaerelaw5_MatchUnify.f (k + 1) a0 a1 a2) := by
 intro a0 a1 a2 k
 have ih0 := quaerelaw5_MatchUnify.mono_l k
 unfold quaerelaw5_MatchUnify.f
 repeat' first
   | (with_reducible exact ih0 _ _ _ _)
   | (with_reducible exact quaerelaw0_SameBinds.mono _ _ _)
   | (with_reducible exact quaerelaw5_awake.mono _)
   | (with_reducible exact LeO.refl _)
   | (with_reducible exact LeO.none _)
   | (with_reducible refine LeO.ite ?_ ?_)
   | (with_reducible refine LeO.bind ?_ (fun _ => ?_))
   | exact ih0 _ _ _ _
   | exact quaerelaw0_SameBinds.mono _ _ _
   | exact quaerelaw5_awake.mono _
   | exact LeO.none _
   | refine LeO.ite ?_ ?_
   | refine LeO.bind ?_ (fun _ => ?_)
set_option maxHeartbeats 8000000 in
set_option maxRecDepth 100000 in
theorem quaerelaw5_MatchUnify.calls (k : Nat) (A0 : Option Addr) (c0 : Nat) (l0 : List (S73)) (A1 : Option Addr) (c1 : Nat) (l1 : List Int) (A2 : Option Addr) (c2 : Nat) (l2 : List Int) (r : Bool) (w : World) (hr0 : Kd.C k73 w A0 l0.length l0) (hc0 : l0.length ≤ c0) (hr1 : Kd.C (Kd.int .i64) w A1 l1.length l1) (hc1 : l1.length ≤ c1) (hr2 : Kd.C (Kd.int .i64) w A2 l2.length l2) (hc2 : l2.length ≤ c2) (h : quaerelaw5_MatchUnify.f k l0 l1 l2 = some r) (hG : Glob w) :
  Calls Tryd.prog 8 #[.slice A0 l0.length c0, .slice A1 l1.length c1, .slice A2 l2.length c2] w fun e w' => e = .returned (.bool r) ∧ Below w.heap.size w w' := by
 have HR0 := Aside0.mk hr0
 have HC0 := Aside0.mk hc0
 clear hr0 hc0
 have HR1 := Aside0.mk hr1
 have HC1 := Aside0.mk hc1
 clear hr1 hc1
 have HR2 := Aside0.mk hr2
 have HC2 := Aside0.mk hc2
 clear hr2 hc2
 have HB := Aside0.mk (Below.refl w.heap.size w)
 have H : ((quaerelaw5_awake.f k).bind fun t222 => (if t222 = true then (quaerelaw5_MatchUnify.l0 k l0 l1 l2 0) else (some false))) = some r := h
 clear h
 replace H := Option.bind_eq_some_iff.mp H
 obtain ⟨t222, A40, H⟩ := H
 replace H : (if t222 = true then (quaerelaw5_MatchUnify.l0 k l0 l1 l2 0) else (some false)) = some r := H
 have A4 := Aside0.mk A40
 clear A40
 by_cases c5 : t222 = true
 ·subst c5
  have H1 : (quaerelaw5_MatchUnify.l0 k l0 l1 l2 0) = some r := by rw [if_pos rfl] at H; exact H
  clear H
  have H := H1
  clear H1
  have H' := Aside0.mk H
  clear H
  go_enter Tryd.func8, Tryd.ntmps8
  go_wp2_with (first | ((with_reducible refine gate_callee (f := 16) rfl ?_); refine goesL_ (some 14) rfl rfl Tryd.func16 (by kernel_rfl) rfl #[] rfl mA ?_; (with_reducible refine (quaerelaw5_awake.calls (hG := gK) k  true _ A4.out).mono ?_); rintro e w6 ⟨rfl, hb⟩; refine ⟨_, rfl, ?_⟩; have n0_ := Aside0.mk (below_step bB hb); clear HB; have HB := n0_; clear n0_; (try clear hb); (try clear hb2); (try clear hk); (try clear hi)))
  go_loopg [7] k (fun kq v7 w' => ∃ (x7_1 : Int), v7 = .int .i64 x7_1 ∧ Aside0 (quaerelaw5_MatchUnify.l0 kq l0 l1 l2 x7_1 = some r) ∧ Aside0 (kq ≤ k) ∧ Aside0 (Below w.heap.size w w'))
  case atStart => exact ⟨(0), sK, H', ⟨Nat.le_refl _⟩, ⟨bB⟩⟩
  case round =>
   clear H'
   try clear c1
   try clear c2
   try clear p2
   try clear c5
   obtain ⟨x7_1, rfl, HA, HK1, HB⟩ := hrel
   cases gk with
   | zero => exact absurd HA.out (by simp [quaerelaw5_MatchUnify.l0])
   | succ k1 =>
    have H := HA.out
    clear HA
    simp only [quaerelaw5_MatchUnify.l0] at H
    by_cases c7 : x7_1 < (l2.length : Int)
    ·rw [if_pos c7] at H
     have c7b0 : decide (x7_1 < (l2.length : Int)) = true := decide_eq_true c7
     clear c7
     by_cases c8 : 0 ≤ x7_1
     ·rw [if_pos c8] at H
      have c8b0 : decide (0 ≤ x7_1) = true := decide_eq_true c8
      clear c8
      by_cases c9 : (rd l2 x7_1) < 0
      ·rw [if_pos c9] at H
       have c9b0 : decide ((rd l2 x7_1) < 0) = true := decide_eq_true c9
       clear c9
       obtain rfl := Option.some.inj H
       have p223 : 0 ≤ (x7_1 : Int) := of_decide_eq_true aK
       have q223 : x7_1 < (l2.length : Int) := of_decide_eq_true aK
       obtain ⟨ad223, e223, hx223_0⟩ := Kd.at_int HR2.out x7_1 p223 q223
       cases e223
       replace hx223_0 := (HB.out.cell (World.block_lt_of_cell? w _ hx223_0)).trans hx223_0
       replace p223 := eq_true p223
       replace q223 := eq_true q223
       go_wp2
       go_ret
       exact ⟨eK, bB⟩
      ·rw [if_neg c9] at H
       have c9b0 : decide ((rd l2 x7_1) < 0) = false := decide_eq_false c9
       clear c9
       have H' := Aside0.mk H
       clear H
       have p223 : 0 ≤ (x7_1 : Int) := of_decide_eq_true aK
       have q223 : x7_1 < (l2.length : Int) := of_decide_eq_true aK
       obtain ⟨ad223, e223, hx223_0⟩ := Kd.at_int HR2.out x7_1 p223 q223
       cases e223
       replace hx223_0 := (HB.out.cell (World.block_lt_of_cell? w _ hx223_0)).trans hx223_0
       replace p223 := eq_true p223
       replace q223 := eq_true q223
       go_wp2
       go_roundg k1
       case measure => have := HK1.out; omega
       case rel => exact ⟨(wrap64 (x7_1 + 1)), sK, H', ⟨by have := HK1.out; omega⟩, ⟨bB⟩⟩
     ·rw [if_neg c8] at H
      exact absurd H (by simp)
    ·rw [if_neg c7] at H
     have c7b0 : decide (x7_1 < (l2.length : Int)) = false := decide_eq_false c7
     clear c7
     replace H := Option.bind_eq_some_iff.mp H
     obtain ⟨⟨t224, t225, t226⟩, A100, H⟩ := H
     replace H : ((unify_Unify.f l0 l1 l2).bind fun bt229 => ((quaerelaw0_Num.f t226).bind fun t234 => (if t234 = 0 then ((quaerelaw0_Num.f bt229.2.2).bind fun t235 => (if t235 = 0 then (if (t225 == bt229.2.1) = true then ((quaerelaw0_SameBinds.f k1 t224 bt229.1).bind fun t236 => (some t236)) else (some false)) else (some false))) else ((quaerelaw0_Num.f bt229.2.2).bind fun t237 => (some (t237 == 400)))))) = some r := H
     have A10 := Aside0.mk A100
     clear A100
     replace H := Option.bind_eq_some_iff.mp H
     obtain ⟨⟨t229, t230, t231⟩, A110, H⟩ := H
     replace H : ((quaerelaw0_Num.f t226).bind fun t234 => (if t234 = 0 then ((quaerelaw0_Num.f t231).bind fun t235 => (if t235 = 0 then (if (t225 == t230) = true then ((quaerelaw0_SameBinds.f k1 t224 t229).bind fun t236 => (some t236)) else (some false)) else (some false))) else ((quaerelaw0_Num.f t231).bind fun t237 => (some (t237 == 400))))) = some r := H
     have A11 := Aside0.mk A110
     clear A110
     replace H := Option.bind_eq_some_iff.mp H
     obtain ⟨t234, A120, H⟩ := H
     replace H : (if t234 = 0 then ((quaerelaw0_Num.f t231).bind fun t235 => (if t235 = 0 then (if (t225 == t230) = true then ((quaerelaw0_SameBinds.f k1 t224 t229).bind fun t236 => (some t236)) else (some false)) else (some false))) else ((quaerelaw0_Num.f t231).bind fun t237 => (some (t237 == 400)))) = some r := H
     have A12 := Aside0.mk A120
     clear A120
     by_cases c13 : t234 = 0
     ·rw [if_pos c13] at H
      have c13b0 : (t234 == 0) = true := beq_iff_eq.mpr c13
      have c13b1 : (t234 != 0) = false := bne_eq_false_iff_eq.mpr c13
      clear c13
      replace H := Option.bind_eq_some_iff.mp H
      obtain ⟨t235, A140, H⟩ := H
      replace H : (if t235 = 0 then (if (t225 == t230) = true then ((quaerelaw0_SameBinds.f k1 t224 t229).bind fun t236 => (some t236)) else (some false)) else (some false)) = some r := H
      have A14 := Aside0.mk A140
      clear A140
      by_cases c15 : t235 = 0
      ·rw [if_pos c15] at H
       have c15b0 : (t235 == 0) = true := beq_iff_eq.mpr c15
       have c15b1 : (t235 != 0) = false := bne_eq_false_iff_eq.mpr c15
       clear c15
       by_cases c16 : (t225 == t230) = true
       ·rw [if_pos c16] at H
        have c16b0 : (t225 == t230) = true := c16
        (try (have c16b1 : decide (t225 = t230) = true := by simpa using c16))
        (try (have c16b2 : (t225 == t230) = true := by simpa using c16))
        clear c16
        replace H := Option.bind_eq_some_iff.mp H
        obtain ⟨t236, A170, H⟩ := H
        replace H : (some t236) = some r := H
        have A17 := Aside0.mk A170
        clear A170
        obtain rfl := Option.some.inj H
        go_wp2_with (first | ((with_reducible refine gate_callee (f := 10) rfl ?_); refine goesL_ (some 31) rfl rfl Tryd.func10 (by kernel_rfl) rfl #[.slice A0 l0.length c0, .slice A1 l1.length c1, .slice A2 l2.length c2] rfl mA ?_; (with_reducible refine (match_Match.calls (hG := gK) _ _ l0 _ _ l1 _ _ l2 t224 t225 t226 _ ?side1 ?side2 ?side3 ?side4 ?side5 ?side6 A10.out).mono ?_); (case side1 => exact cK (Kd.C_below HR0.out HB.out)); (case side2 => exact HC0.out); (case side3 => exact cK (Kd.C_below HR1.out HB.out)); (case side4 => exact HC1.out); (case side5 => exact cK (Kd.C_below HR2.out HB.out)); (case side6 => exact HC2.out); rintro e w18 ⟨v227, rfl, ho0, hb⟩; refine ⟨_, rfl, ?_⟩; have n0_ := Aside0.mk (Kd.S_lower ho0 (below_size bB)); have n1_ := Aside0.mk (below_step bB hb); clear HB; have HO228 := n0_; have HB := n1_; clear n0_ n1_; (try clear hb); (try clear hb2); (try clear hk); (try clear hi); (try clear ho0)) | ((with_reducible refine gate_callee (f := 20) rfl ?_); refine goesL_ (some 39) rfl rfl Tryd.func20 (by kernel_rfl) rfl #[.slice A0 l0.length c0, .slice A1 l1.length c1, .slice A2 l2.length c2] rfl mA ?_; (with_reducible refine (unify_Unify.calls (hG := gK) _ _ l0 _ _ l1 _ _ l2 t229 t230 t231 _ ?side1 ?side2 ?side3 ?side4 ?side5 ?side6 A11.out).mono ?_); (case side1 => exact cK (Kd.C_below HR0.out HB.out)); (case side2 => exact HC0.out); (case side3 => exact cK (Kd.C_below HR1.out HB.out)); (case side4 => exact HC1.out); (case side5 => exact cK (Kd.C_below HR2.out HB.out)); (case side6 => exact HC2.out); rintro e w19 ⟨v232, rfl, ho0, hb⟩; refine ⟨_, rfl, ?_⟩; have n0_ := Aside0.mk (Kd.S_elder' (by (with_reducible repeat (first | apply Kd.S_alloc | apply Kd.S_drewN | apply Kd.S_drew)); exact HO228.out) (Kd.S_base ho0) hb); have n1_ := Aside0.mk (Kd.S_lower (Kd.S_new' ho0 (Kd.S_lt (by (with_reducible repeat (first | apply Kd.S_alloc | apply Kd.S_drewN | apply Kd.S_drew)); exact HO228.out))) (below_size bB)); have n2_ := Aside0.mk (below_step bB hb); clear HO228; clear HB; have HO228 := n0_; have HO233 := n1_; have HB := n2_; clear n0_ n1_ n2_; (try clear hb); (try clear hb2); (try clear hk); (try clear hi); (try clear ho0)) | ((with_reducible refine gate_callee (f := 13) rfl ?_); refine goesL_ (some 44) rfl rfl Tryd.func13 (by kernel_rfl) rfl #[.int .i64 t226] rfl mA ?_; (with_reducible refine (quaerelaw0_Num.calls t226 t234 _ A12.out).mono ?_); rintro e w' ⟨rfl, ⟨nd, rfl⟩⟩; refine ⟨_, rfl, ?_⟩) | ((with_reducible refine gate_callee (f := 13) rfl ?_); refine goesL_ (some 50) rfl rfl Tryd.func13 (by kernel_rfl) rfl #[.int .i64 t231] rfl mA ?_; (with_reducible refine (quaerelaw0_Num.calls t231 t235 _ A14.out).mono ?_); rintro e w' ⟨rfl, ⟨nd, rfl⟩⟩; refine ⟨_, rfl, ?_⟩; obtain ⟨Ao20, co20, eo20⟩ := Kd.S_slice HO228.out; subst eo20; obtain ⟨Ao21, co21, eo21⟩ := Kd.S_slice HO233.out; subst eo21) | (go_at_call 12; (with_reducible refine (quaerelaw0_SameBinds.calls k1 _ _ t224 _ _ t229 t236 _ ?side1 ?side2 ?side3 ?side4 A17.out).mono ?_); (case side1 => exact cK ((Kd.S_reads' HO228.out).2.2)); (case side2 => exact (Kd.S_reads' HO228.out).2.1); (case side3 => exact cK ((Kd.S_reads' HO233.out).2.2)); (case side4 => exact (Kd.S_reads' HO233.out).2.1); rintro e w' ⟨rfl, ⟨nd, rfl⟩⟩))
        go_ret
        exact ⟨eK, bB⟩
       ·rw [if_neg c16] at H
        have c16b0 : (t225 == t230) = false := by simpa using c16
        (try (have c16b1 : decide (t225 = t230) = false := by simpa using c16))
        (try (have c16b2 : (t225 == t230) = false := by simpa using c16))
        (try (have c16b3 : ¬ (t225 = t230) := by simpa using c16))
        clear c16
        obtain rfl := Option.some.inj H
        go_wp2_with (first | ((with_reducible refine gate_callee (f := 10) rfl ?_); refine goesL_ (some 31) rfl rfl Tryd.func10 (by kernel_rfl) rfl #[.slice A0 l0.length c0, .slice A1 l1.length c1, .slice A2 l2.length c2] rfl mA ?_; (with_reducible refine (match_Match.calls (hG := gK) _ _ l0 _ _ l1 _ _ l2 t224 t225 t226 _ ?side1 ?side2 ?side3 ?side4 ?side5 ?side6 A10.out).mono ?_); (case side1 => exact cK (Kd.C_below HR0.out HB.out)); (case side2 => exact HC0.out); (case side3 => exact cK (Kd.C_below HR1.out HB.out)); (case side4 => exact HC1.out); (case side5 => exact cK (Kd.C_below HR2.out HB.out)); (case side6 => exact HC2.out); rintro e w22 ⟨v227, rfl, ho0, hb⟩; refine ⟨_, rfl, ?_⟩; have n0_ := Aside0.mk (Kd.S_lower ho0 (below_size bB)); have n1_ := Aside0.mk (below_step bB hb); clear HB; have HO228 := n0_; have HB := n1_; clear n0_ n1_; (try clear hb); (try clear hb2); (try clear hk); (try clear hi); (try clear ho0)) | ((with_reducible refine gate_callee (f := 20) rfl ?_); refine goesL_ (some 39) rfl rfl Tryd.func20 (by kernel_rfl) rfl #[.slice A0 l0.length c0, .slice A1 l1.length c1, .slice A2 l2.length c2] rfl mA ?_; (with_reducible refine (unify_Unify.calls (hG := gK) _ _ l0 _ _ l1 _ _ l2 t229 t230 t231 _ ?side1 ?side2 ?side3 ?side4 ?side5 ?side6 A11.out).mono ?_); (case side1 => exact cK (Kd.C_below HR0.out HB.out)); (case side2 => exact HC0.out); (case side3 => exact cK (Kd.C_below HR1.out HB.out)); (case side4 => exact HC1.out); (case side5 => exact cK (Kd.C_below HR2.out HB.out)); (case side6 => exact HC2.out); rintro e w23 ⟨v232, rfl, ho0, hb⟩; refine ⟨_, rfl, ?_⟩; have n0_ := Aside0.mk (Kd.S_elder' (by (with_reducible repeat (first | apply Kd.S_alloc | apply Kd.S_drewN | apply Kd.S_drew)); exact HO228.out) (Kd.S_base ho0) hb); have n1_ := Aside0.mk (Kd.S_lower (Kd.S_new' ho0 (Kd.S_lt (by (with_reducible repeat (first | apply Kd.S_alloc | apply Kd.S_drewN | apply Kd.S_drew)); exact HO228.out))) (below_size bB)); have n2_ := Aside0.mk (below_step bB hb); clear HO228; clear HB; have HO228 := n0_; have HO233 := n1_; have HB := n2_; clear n0_ n1_ n2_; (try clear hb); (try clear hb2); (try clear hk); (try clear hi); (try clear ho0)) | ((with_reducible refine gate_callee (f := 13) rfl ?_); refine goesL_ (some 44) rfl rfl Tryd.func13 (by kernel_rfl) rfl #[.int .i64 t226] rfl mA ?_; (with_reducible refine (quaerelaw0_Num.calls t226 t234 _ A12.out).mono ?_); rintro e w' ⟨rfl, ⟨nd, rfl⟩⟩; refine ⟨_, rfl, ?_⟩) | ((with_reducible refine gate_callee (f := 13) rfl ?_); refine goesL_ (some 50) rfl rfl Tryd.func13 (by kernel_rfl) rfl #[.int .i64 t231] rfl mA ?_; (with_reducible refine (quaerelaw0_Num.calls t231 t235 _ A14.out).mono ?_); rintro e w' ⟨rfl, ⟨nd, rfl⟩⟩; refine ⟨_, rfl, ?_⟩))
        go_ret
        exact ⟨eK, bB⟩
      ·rw [if_neg c15] at H
       have c15b0 : (t235 == 0) = false := beq_eq_false_iff_ne.mpr c15
       have c15b1 : (t235 != 0) = true := bne_iff_ne.mpr c15
       obtain rfl := Option.some.inj H
       go_wp2_with (first | ((with_reducible refine gate_callee (f := 10) rfl ?_); refine goesL_ (some 31) rfl rfl Tryd.func10 (by kernel_rfl) rfl #[.slice A0 l0.length c0, .slice A1 l1.length c1, .slice A2 l2.length c2] rfl mA ?_; (with_reducible refine (match_Match.calls (hG := gK) _ _ l0 _ _ l1 _ _ l2 t224 t225 t226 _ ?side1 ?side2 ?side3 ?side4 ?side5 ?side6 A10.out).mono ?_); (case side1 => exact cK (Kd.C_below HR0.out HB.out)); (case side2 => exact HC0.out); (case side3 => exact cK (Kd.C_below HR1.out HB.out)); (case side4 => exact HC1.out); (case side5 => exact cK (Kd.C_below HR2.out HB.out)); (case side6 => exact HC2.out); rintro e w24 ⟨v227, rfl, ho0, hb⟩; refine ⟨_, rfl, ?_⟩; have n0_ := Aside0.mk (Kd.S_lower ho0 (below_size bB)); have n1_ := Aside0.mk (below_step bB hb); clear HB; have HO228 := n0_; have HB := n1_; clear n0_ n1_; (try clear hb); (try clear hb2); (try clear hk); (try clear hi); (try clear ho0)) | ((with_reducible refine gate_callee (f := 20) rfl ?_); refine goesL_ (some 39) rfl rfl Tryd.func20 (by kernel_rfl) rfl #[.slice A0 l0.length c0, .slice A1 l1.length c1, .slice A2 l2.length c2] rfl mA ?_; (with_reducible refine (unify_Unify.calls (hG := gK) _ _ l0 _ _ l1 _ _ l2 t229 t230 t231 _ ?side1 ?side2 ?side3 ?side4 ?side5 ?side6 A11.out).mono ?_); (case side1 => exact cK (Kd.C_below HR0.out HB.out)); (case side2 => exact HC0.out); (case side3 => exact cK (Kd.C_below HR1.out HB.out)); (case side4 => exact HC1.out); (case side5 => exact cK (Kd.C_below HR2.out HB.out)); (case side6 => exact HC2.out); rintro e w25 ⟨v232, rfl, ho0, hb⟩; refine ⟨_, rfl, ?_⟩; have n0_ := Aside0.mk (Kd.S_elder' (by (with_reducible repeat (first | apply Kd.S_alloc | apply Kd.S_drewN | apply Kd.S_drew)); exact HO228.out) (Kd.S_base ho0) hb); have n1_ := Aside0.mk (Kd.S_lower (Kd.S_new' ho0 (Kd.S_lt (by (with_reducible repeat (first | apply Kd.S_alloc | apply Kd.S_drewN | apply Kd.S_drew)); exact HO228.out))) (below_size bB)); have n2_ := Aside0.mk (below_step bB hb); clear HO228; clear HB; have HO228 := n0_; have HO233 := n1_; have HB := n2_; clear n0_ n1_ n2_; (try clear hb); (try clear hb2); (try clear hk); (try clear hi); (try clear ho0)) | ((with_reducible refine gate_callee (f := 13) rfl ?_); refine goesL_ (some 44) rfl rfl Tryd.func13 (by kernel_rfl) rfl #[.int .i64 t226] rfl mA ?_; (with_reducible refine (quaerelaw0_Num.calls t226 t234 _ A12.out).mono ?_); rintro e w' ⟨rfl, ⟨nd, rfl⟩⟩; refine ⟨_, rfl, ?_⟩) | ((with_reducible refine gate_callee (f := 13) rfl ?_); refine goesL_ (some 50) rfl rfl Tryd.func13 (by kernel_rfl) rfl #[.int .i64 t231] rfl mA ?_; (with_reducible refine (quaerelaw0_Num.calls t231 t235 _ A14.out).mono ?_); rintro e w' ⟨rfl, ⟨nd, rfl⟩⟩; refine ⟨_, rfl, ?_⟩))
       go_ret
       exact ⟨eK, bB⟩
     ·rw [if_neg c13] at H
      have c13b0 : (t234 == 0) = false := beq_eq_false_iff_ne.mpr c13
      have c13b1 : (t234 != 0) = true := bne_iff_ne.mpr c13
      replace H := Option.bind_eq_some_iff.mp H
      obtain ⟨t237, A260, H⟩ := H
      replace H : (some (t237 == 400)) = some r := H
      have A26 := Aside0.mk A260
      clear A260
      obtain rfl := Option.some.inj H
      go_wp2_with (first | ((with_reducible refine gate_callee (f := 10) rfl ?_); refine goesL_ (some 31) rfl rfl Tryd.func10 (by kernel_rfl) rfl #[.slice A0 l0.length c0, .slice A1 l1.length c1, .slice A2 l2.length c2] rfl mA ?_; (with_reducible refine (match_Match.calls (hG := gK) _ _ l0 _ _ l1 _ _ l2 t224 t225 t226 _ ?side1 ?side2 ?side3 ?side4 ?side5 ?side6 A10.out).mono ?_); (case side1 => exact cK (Kd.C_below HR0.out HB.out)); (case side2 => exact HC0.out); (case side3 => exact cK (Kd.C_below HR1.out HB.out)); (case side4 => exact HC1.out); (case side5 => exact cK (Kd.C_below HR2.out HB.out)); (case side6 => exact HC2.out); rintro e w27 ⟨v227, rfl, ho0, hb⟩; refine ⟨_, rfl, ?_⟩; have n0_ := Aside0.mk (Kd.S_lower ho0 (below_size bB)); have n1_ := Aside0.mk (below_step bB hb); clear HB; have HO228 := n0_; have HB := n1_; clear n0_ n1_; (try clear hb); (try clear hb2); (try clear hk); (try clear hi); (try clear ho0)) | ((with_reducible refine gate_callee (f := 20) rfl ?_); refine goesL_ (some 39) rfl rfl Tryd.func20 (by kernel_rfl) rfl #[.slice A0 l0.length c0, .slice A1 l1.length c1, .slice A2 l2.length c2] rfl mA ?_; (with_reducible refine (unify_Unify.calls (hG := gK) _ _ l0 _ _ l1 _ _ l2 t229 t230 t231 _ ?side1 ?side2 ?side3 ?side4 ?side5 ?side6 A11.out).mono ?_); (case side1 => exact cK (Kd.C_below HR0.out HB.out)); (case side2 => exact HC0.out); (case side3 => exact cK (Kd.C_below HR1.out HB.out)); (case side4 => exact HC1.out); (case side5 => exact cK (Kd.C_below HR2.out HB.out)); (case side6 => exact HC2.out); rintro e w28 ⟨v232, rfl, ho0, hb⟩; refine ⟨_, rfl, ?_⟩; have n0_ := Aside0.mk (Kd.S_elder' (by (with_reducible repeat (first | apply Kd.S_alloc | apply Kd.S_drewN | apply Kd.S_drew)); exact HO228.out) (Kd.S_base ho0) hb); have n1_ := Aside0.mk (Kd.S_lower (Kd.S_new' ho0 (Kd.S_lt (by (with_reducible repeat (first | apply Kd.S_alloc | apply Kd.S_drewN | apply Kd.S_drew)); exact HO228.out))) (below_size bB)); have n2_ := Aside0.mk (below_step bB hb); clear HO228; clear HB; have HO228 := n0_; have HO233 := n1_; have HB := n2_; clear n0_ n1_ n2_; (try clear hb); (try clear hb2); (try clear hk); (try clear hi); (try clear ho0)) | ((with_reducible refine gate_callee (f := 13) rfl ?_); refine goesL_ (some 44) rfl rfl Tryd.func13 (by kernel_rfl) rfl #[.int .i64 t226] rfl mA ?_; (with_reducible refine (quaerelaw0_Num.calls t226 t234 _ A12.out).mono ?_); rintro e w' ⟨rfl, ⟨nd, rfl⟩⟩; refine ⟨_, rfl, ?_⟩) | ((with_reducible refine gate_callee (f := 13) rfl ?_); refine goesL_ (some 47) rfl rfl Tryd.func13 (by kernel_rfl) rfl #[.int .i64 t231] rfl mA ?_; (with_reducible refine (quaerelaw0_Num.calls t231 t237 _ A26.out).mono ?_); rintro e w' ⟨rfl, ⟨nd, rfl⟩⟩; refine ⟨_, rfl, ?_⟩))
      go_ret
      exact ⟨eK, bB⟩
 ·replace c5 := Bool.eq_false_iff.mpr c5
  subst c5
  have H1 : (some false) = some r := by rw [if_neg (show ¬ (false = true) by decide)] at H; exact H
  clear H
  have H := H1
  clear H1
  obtain rfl := Option.some.inj H
  go_enter Tryd.func8, Tryd.ntmps8
  go_wp2_with (first | ((with_reducible refine gate_callee (f := 16) rfl ?_); refine goesL_ (some 14) rfl rfl Tryd.func16 (by kernel_rfl) rfl #[] rfl mA ?_; (with_reducible refine (quaerelaw5_awake.calls (hG := gK) k  false _ A4.out).mono ?_); rintro e w29 ⟨rfl, hb⟩; refine ⟨_, rfl, ?_⟩; have n0_ := Aside0.mk (below_step bB hb); clear HB; have HB := n0_; clear n0_; (try clear hb); (try clear hb2); (try clear hk); (try clear hi)))
  go_ret
  exact ⟨eK, bB⟩

end Go.Proofs.YtohclkafdphleaaDoor.PU
