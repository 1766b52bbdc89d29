-- written by a program of this session's (wip/tools/pp.py), after the kit's print
import Derived.Test.YtaegdhpcnpojnaaDoorPUx0
import Derived.Test.YtaegdhpcnpojnaaDoorPUx4
import Derived.Test.YtaegdhpcnpojnaaDoorPUx12
import Derived.Test.YtaegdhpcnpojnaaDoorPUx15
import Derived.Test.YtaegdhpcnpojnaaDoorPUx21
import Derived.Test.YtaegdhpcnpojnaaDoorPUx24
namespace Go.Proofs.YtaegdhpcnpojnaaDoor.PU
open Go.RowKit Go.Proofs.YtaegdhpcnpojnaaDoorW.PrintWords Go.Proofs.YtaegdhpcnpojnaaDoorW.PrintLast Go.Proofs.YtaegdhpcnpojnaaDoorW.PrintMore
attribute [local go_sem] jump_ret max2_int min2_int max_two min_two max_three min_three max_four min_four   -- for this text's walks alone
set_option linter.unusedVariables false
set_option linter.unusedSimpArgs false

/-! ### quaerelaw4_UnifyAny: function 8 -/
mutual
noncomputable def quaerelaw4_UnifyAny.j0 : Nat → List (S66) → List (S41) → List Int → List Int → List Int → Bool → Option (Bool)
 | 0, _, _, _, _, _, _ => none
 | k + 1, x0, x1, x2, x3, x9, x49 => if x49 = true then (some true) else ((unify_Unify.f x0 x2 x3).bind fun bt404 => ((quaerelaw0_Num.f bt404.2.2).bind fun t409 => (if t409 = 0 then (quaerelaw4_UnifyAny.j1 k x0 x1 x2 x9 bt404.1 (!bt404.2.1)) else (quaerelaw4_UnifyAny.j1 k x0 x1 x2 x9 bt404.1 true))))
noncomputable def quaerelaw4_UnifyAny.j1 : Nat → List (S66) → List (S41) → List Int → List Int → List (S41) → Bool → Option (Bool)
 | 0, _, _, _, _, _, _ => none
 | k + 1, x0, x1, x2, x9, x13, x64 => if x64 = true then (some false) else ((bind_Then.f x0 x13 x1).bind fun bt410 => ((quaerelaw0_Num.f bt410.2).bind fun t414 => (if t414 = 0 then ((bind_Apply.f k x0 bt410.1 x2).bind fun bt415 => ((quaerelaw0_Num.f bt415.2).bind fun t419 => (if t419 = 0 then ((quaerelaw0_SameInts.f k bt415.1 x9).bind fun t420 => (some t420)) else (some false)))) else (some false))))
end
noncomputable def quaerelaw4_UnifyAny.f (k : Nat) (l0 : List (S66)) (l1 : List (S41)) (l2 : List Int) (l3 : List Int) : Option (Bool) := (quaerelaw4_awake.f k).bind fun t392 => (if t392 = true then ((bind_Apply.f k l0 l1 l2).bind fun bt393 => ((bind_Apply.f k l0 l1 l3).bind fun bt397 => ((quaerelaw0_Num.f bt393.2).bind fun t401 => (if t401 = 0 then ((quaerelaw0_Num.f bt397.2).bind fun t402 => (if t402 = 0 then ((quaerelaw0_SameInts.f k bt393.1 bt397.1).bind fun t403 => (quaerelaw4_UnifyAny.j0 k l0 l1 l2 l3 bt393.1 (!t403))) else (quaerelaw4_UnifyAny.j0 k l0 l1 l2 l3 bt393.1 true))) else (quaerelaw4_UnifyAny.j0 k l0 l1 l2 l3 bt393.1 true))))) else (some false))
theorem quaerelaw4_UnifyAny.mono_l : ∀ k, (∀ y0 y1 y2 y3 y4 y5, LeO (quaerelaw4_UnifyAny.j0 k y0 y1 y2 y3 y4 y5) (quaerelaw4_UnifyAny.j0 (k + 1) y0 y1 y2 y3 y4 y5)) ∧ (∀ y0 y1 y2 y3 y4 y5, LeO (quaerelaw4_UnifyAny.j1 k y0 y1 y2 y3 y4 y5) (quaerelaw4_UnifyAny.j1 (k + 1) y0 y1 y2 y3 y4 y5))
 | 0 => ⟨fun _ _ _ _ _ _ r h => by simp [quaerelaw4_UnifyAny.j0] at h, fun _ _ _ _ _ _ r h => by simp [quaerelaw4_UnifyAny.j1] at h⟩
 | k + 1 => by
  obtain ⟨ih0, ih1⟩ := quaerelaw4_UnifyAny.mono_l k
  refine ⟨?_, ?_⟩
  ·intro y0 y1 y2 y3 y4 y5
   unfold quaerelaw4_UnifyAny.j0
   repeat' first
   | (with_reducible exact ih0 _ _ _ _ _ _)
   | (with_reducible exact ih1 _ _ _ _ _ _)
   | (with_reducible exact bind_Apply.mono _ _ _ _)
   | (with_reducible exact quaerelaw0_SameInts.mono _ _ _)
   | (with_reducible exact quaerelaw4_awake.mono _)
   | (with_reducible exact LeO.refl _)
   | (with_reducible exact LeO.none _)
   | (with_reducible refine LeO.ite ?_ ?_)
   | (with_reducible refine LeO.bind ?_ (fun _ => ?_))
   | exact ih0 _ _ _ _ _ _
   | exact ih1 _ _ _ _ _ _
   | exact bind_Apply.mono _ _ _ _
   | exact quaerelaw0_SameInts.mono _ _ _
   | exact quaerelaw4_awake.mono _
   | exact LeO.none _
   | refine LeO.ite ?_ ?_
   | refine LeO.bind ?_ (fun _ => ?_)
  ·intro y0 y1 y2 y3 y4 y5
   unfold quaerelaw4_UnifyAny.j1
   repeat' first
   | (with_reducible exact ih0 _ _ _ _ _ _)
   | (with_reducible exact ih1 _ _ _ _ _ _)
   | (with_reducible exact bind_Apply.mono _ _ _ _)
   | (with_reducible exact quaerelaw0_SameInts.mono _ _ _)
   | (with_reducible exact quaerelaw4_awake.mono _)
   | (with_reducible exact LeO.refl _)
   | (with_reducible exact LeO.none _)
   | (with_reducible refine LeO.ite ?_ ?_)
   | (with_reducible refine LeO.bind ?_ (fun _ => ?_))
   | exact ih0 _ _ _ _ _ _
   | exact ih1 _ _ _ _ _ _
   | exact bind_Apply.mono _ _ _ _
   | exact quaerelaw0_SameInts.mono _ _ _
   | exact quaerelaw4_awake.mono _
   | exact LeO.none _
   | refine LeO.ite ?_ ?_
   | refine LeO.bind ?_ (fun _ => ?_)
theorem quaerelaw4_UnifyAny.mono : ∀ a0 a1 a2 a3 k, LeO (quaerelaw4_UnifyAny.f k a0 a1 a2 a3) (quaerelaw4_UnifyAny.f (k + 1) a0 a1 a2 a3) := by
 intro a0 a1 a2 a3 k
 obtain ⟨ih0, ih1⟩ := quaerelaw4_UnifyAny.mono_l k
 unfold quaerelaw4_UnifyAny.f
 repeat' first
   | (with_reducible exact ih0 _ _ _ _ _ _)
   | (with_reducible exact ih1 _ _ _ _ _ _)
   | (with_reducible exact bind_Apply.mono _ _ _ _)
   | (with_reducible exact quaerelaw0_SameInts.mono _ _ _)
   | (with_reducible exact quaerelaw4_awake.mono _)
   | (with_reducible exact LeO.refl _)
   | (with_reducible exact LeO.none _)
   | (with_reducible refine LeO.ite ?_ ?_)
   | (with_reducible refine LeO.bind ?_ (fun _ => ?_))
   | exact ih0 _ _ _ _ _ _
   | exact ih1 _ _ _ _ _ _
   | exact bind_Apply.mono _ _ _ _
   | exact quaerelaw0_SameInts.mono _ _ _
   | exact quaerelaw4_awake.mono _
   | exact LeO.none _
   | refine LeO.ite ?_ ?_
   | refine LeO.bind ?_ (fun _ => ?_)
set_option maxHeartbeats 8000000 in
set_option maxRecDepth 100000 in
theorem quaerelaw4_UnifyAny.calls (k : Nat) (A0 : Option Addr) (c0 : Nat) (l0 : List (S66)) (A1 : Option Addr) (c1 : Nat) (l1 : List (S41)) (A2 : Option Addr) (c2 : Nat) (l2 : List Int) (A3 : Option Addr) (c3 : Nat) (l3 : List Int) (r : Bool) (w : World) (hr0 : Kd.C k66 w A0 l0.length l0) (hc0 : l0.length ≤ c0) (hr1 : Kd.C k41 w A1 l1.length l1) (hc1 : l1.length ≤ c1) (hr2 : Kd.C (Kd.int .i64) w A2 l2.length l2) (hc2 : l2.length ≤ c2) (hr3 : Kd.C (Kd.int .i64) w A3 l3.length l3) (hc3 : l3.length ≤ c3) (h : quaerelaw4_UnifyAny.f k l0 l1 l2 l3 = some r) (hG : Glob w) :
  Calls Tryd.prog 8 #[.slice A0 l0.length c0, .slice A1 l1.length c1, .slice A2 l2.length c2, .slice A3 l3.length c3] w fun e w' => e = .returned (.bool r) ∧ Below w.heap.size w w' := by
 have HR0 := Aside0.mk hr0
 have HC0 := Aside0.mk hc0
 clear hr0 hc0
 have HR1 := Aside0.mk hr1
 have HC1 := Aside0.mk hc1
 clear hr1 hc1
 have HR2 := Aside0.mk hr2
 have HC2 := Aside0.mk hc2
 clear hr2 hc2
 have HR3 := Aside0.mk hr3
 have HC3 := Aside0.mk hc3
 clear hr3 hc3
 have HB := Aside0.mk (Below.refl w.heap.size w)
 have H : ((quaerelaw4_awake.f k).bind fun t392 => (if t392 = true then ((bind_Apply.f k l0 l1 l2).bind fun bt393 => ((bind_Apply.f k l0 l1 l3).bind fun bt397 => ((quaerelaw0_Num.f bt393.2).bind fun t401 => (if t401 = 0 then ((quaerelaw0_Num.f bt397.2).bind fun t402 => (if t402 = 0 then ((quaerelaw0_SameInts.f k bt393.1 bt397.1).bind fun t403 => (quaerelaw4_UnifyAny.j0 k l0 l1 l2 l3 bt393.1 (!t403))) else (quaerelaw4_UnifyAny.j0 k l0 l1 l2 l3 bt393.1 true))) else (quaerelaw4_UnifyAny.j0 k l0 l1 l2 l3 bt393.1 true))))) else (some false))) = some r := h
 clear h
 replace H := Option.bind_eq_some_iff.mp H
 obtain ⟨t392, A50, H⟩ := H
 replace H : (if t392 = true then ((bind_Apply.f k l0 l1 l2).bind fun bt393 => ((bind_Apply.f k l0 l1 l3).bind fun bt397 => ((quaerelaw0_Num.f bt393.2).bind fun t401 => (if t401 = 0 then ((quaerelaw0_Num.f bt397.2).bind fun t402 => (if t402 = 0 then ((quaerelaw0_SameInts.f k bt393.1 bt397.1).bind fun t403 => (quaerelaw4_UnifyAny.j0 k l0 l1 l2 l3 bt393.1 (!t403))) else (quaerelaw4_UnifyAny.j0 k l0 l1 l2 l3 bt393.1 true))) else (quaerelaw4_UnifyAny.j0 k l0 l1 l2 l3 bt393.1 true))))) else (some false)) = some r := H
 have A5 := Aside0.mk A50
 clear A50
 by_cases c6 : t392 = true
 ·subst c6
  have H1 : ((bind_Apply.f k l0 l1 l2).bind fun bt393 => ((bind_Apply.f k l0 l1 l3).bind fun bt397 => ((quaerelaw0_Num.f bt393.2).bind fun t401 => (if t401 = 0 then ((quaerelaw0_Num.f bt397.2).bind fun t402 => (if t402 = 0 then ((quaerelaw0_SameInts.f k bt393.1 bt397.1).bind fun t403 => (quaerelaw4_UnifyAny.j0 k l0 l1 l2 l3 bt393.1 (!t403))) else (quaerelaw4_UnifyAny.j0 k l0 l1 l2 l3 bt393.1 true))) else (quaerelaw4_UnifyAny.j0 k l0 l1 l2 l3 bt393.1 true))))) = some r := by rw [if_pos rfl] at H; exact H
  clear H
  have H := H1
  clear H1
  replace H := Option.bind_eq_some_iff.mp H
  obtain ⟨⟨t393, t394⟩, A70, H⟩ := H
  replace H : ((bind_Apply.f k l0 l1 l3).bind fun bt397 => ((quaerelaw0_Num.f t394).bind fun t401 => (if t401 = 0 then ((quaerelaw0_Num.f bt397.2).bind fun t402 => (if t402 = 0 then ((quaerelaw0_SameInts.f k t393 bt397.1).bind fun t403 => (quaerelaw4_UnifyAny.j0 k l0 l1 l2 l3 t393 (!t403))) else (quaerelaw4_UnifyAny.j0 k l0 l1 l2 l3 t393 true))) else (quaerelaw4_UnifyAny.j0 k l0 l1 l2 l3 t393 true)))) = some r := H
  have A7 := Aside0.mk A70
  clear A70
  replace H := Option.bind_eq_some_iff.mp H
  obtain ⟨⟨t397, t398⟩, A80, H⟩ := H
  replace H : ((quaerelaw0_Num.f t394).bind fun t401 => (if t401 = 0 then ((quaerelaw0_Num.f t398).bind fun t402 => (if t402 = 0 then ((quaerelaw0_SameInts.f k t393 t397).bind fun t403 => (quaerelaw4_UnifyAny.j0 k l0 l1 l2 l3 t393 (!t403))) else (quaerelaw4_UnifyAny.j0 k l0 l1 l2 l3 t393 true))) else (quaerelaw4_UnifyAny.j0 k l0 l1 l2 l3 t393 true))) = some r := H
  have A8 := Aside0.mk A80
  clear A80
  have HC9 := Aside0.mk H
  clear H
  go_enter Tryd.func8, Tryd.ntmps8
  go_upto_region 5 with (first | ((with_reducible refine gate_callee (f := 16) rfl ?_); refine goesL_ (some 20) rfl rfl Tryd.func16 (by kernel_rfl) rfl #[] rfl mA ?_; (with_reducible refine (quaerelaw4_awake.calls (hG := gK) k  true _ A5.out).mono ?_); rintro e w10 ⟨rfl, hb⟩; refine ⟨_, rfl, ?_⟩; have n0_ := Aside0.mk (below_step bB hb); clear HB; have HB := n0_; clear n0_; (try clear hb); (try clear hb2); (try clear hk); (try clear hi)) | ((with_reducible refine gate_callee (f := 19) rfl ?_); refine goesL_ (some 26) rfl rfl Tryd.func19 (by kernel_rfl) rfl #[.slice A0 l0.length c0, .slice A1 l1.length c1, .slice A2 l2.length c2] rfl mA ?_; (with_reducible refine (bind_Apply.calls (hG := gK) k _ _ l0 _ _ l1 _ _ l2 t393 t394 _ ?side1 ?side2 ?side3 ?side4 ?side5 ?side6 A7.out).mono ?_); (case side1 => exact cK (Kd.C_below HR0.out HB.out)); (case side2 => exact HC0.out); (case side3 => exact cK (Kd.C_below HR1.out HB.out)); (case side4 => exact HC1.out); (case side5 => exact cK (Kd.C_below HR2.out HB.out)); (case side6 => exact HC2.out); rintro e w11 ⟨v395, rfl, ho0, hb⟩; refine ⟨_, rfl, ?_⟩; have n0_ := Aside0.mk (Kd.R_lower ho0 (below_size bB)); have n1_ := Aside0.mk (below_step bB hb); clear HB; have HO396 := n0_; have HB := n1_; clear n0_ n1_; (try clear hb); (try clear hb2); (try clear hk); (try clear hi); (try clear ho0)) | ((with_reducible refine gate_callee (f := 19) rfl ?_); refine goesL_ (some 33) rfl rfl Tryd.func19 (by kernel_rfl) rfl #[.slice A0 l0.length c0, .slice A1 l1.length c1, .slice A3 l3.length c3] rfl mA ?_; (with_reducible refine (bind_Apply.calls (hG := gK) k _ _ l0 _ _ l1 _ _ l3 t397 t398 _ ?side1 ?side2 ?side3 ?side4 ?side5 ?side6 A8.out).mono ?_); (case side1 => exact cK (Kd.C_below HR0.out HB.out)); (case side2 => exact HC0.out); (case side3 => exact cK (Kd.C_below HR1.out HB.out)); (case side4 => exact HC1.out); (case side5 => exact cK (Kd.C_below HR3.out HB.out)); (case side6 => exact HC3.out); rintro e w12 ⟨v399, rfl, ho0, hb⟩; refine ⟨_, rfl, ?_⟩; have n0_ := Aside0.mk (Kd.R_elder' (rK HO396) (Kd.R_base ho0) hb); have n1_ := Aside0.mk (Kd.R_lower (Kd.R_new' ho0 (Kd.R_lt (rK HO396))) (below_size bB)); have n2_ := Aside0.mk (below_step bB hb); clear HO396; clear HB; have HO396 := n0_; have HO400 := n1_; have HB := n2_; clear n0_ n1_ n2_; (try clear hb); (try clear hb2); (try clear hk); (try clear hi); (try clear ho0)))
  (try simp only [Act.put, List.setIfInBounds_toArray, List.set_cons_zero, List.set_cons_succ])
  go_cut [49] (fun v49 wc => ∃ (kq : Nat) (x49_8 : Bool), v49 = .bool x49_8 ∧ Aside0 (quaerelaw4_UnifyAny.j0 kq l0 l1 l2 l3 t393 x49_8 = some r) ∧ Aside0 (kq ≤ k) ∧ Aside0 (Kd.R (Kd.int .i64) 3 wc w.heap.size (fun _ => True) v395 t393) ∧ Aside0 (Below w.heap.size w wc))
  case first =>
   have H := HC9.out
   clear HC9
   replace H := Option.bind_eq_some_iff.mp H
   obtain ⟨t401, A130, H⟩ := H
   replace H : (if t401 = 0 then ((quaerelaw0_Num.f t398).bind fun t402 => (if t402 = 0 then ((quaerelaw0_SameInts.f k t393 t397).bind fun t403 => (quaerelaw4_UnifyAny.j0 k l0 l1 l2 l3 t393 (!t403))) else (quaerelaw4_UnifyAny.j0 k l0 l1 l2 l3 t393 true))) else (quaerelaw4_UnifyAny.j0 k l0 l1 l2 l3 t393 true)) = some r := H
   have A13 := Aside0.mk A130
   clear A130
   by_cases c14 : t401 = 0
   ·rw [if_pos c14] at H
    have c14b0 : (t401 == 0) = true := beq_iff_eq.mpr c14
    have c14b1 : (t401 != 0) = false := bne_eq_false_iff_eq.mpr c14
    clear c14
    (first | rw [c14b0] | (simp only [i64_w, i32_w]; rw [c14b0]) | skip)
    replace H := Option.bind_eq_some_iff.mp H
    obtain ⟨t402, A150, H⟩ := H
    replace H : (if t402 = 0 then ((quaerelaw0_SameInts.f k t393 t397).bind fun t403 => (quaerelaw4_UnifyAny.j0 k l0 l1 l2 l3 t393 (!t403))) else (quaerelaw4_UnifyAny.j0 k l0 l1 l2 l3 t393 true)) = some r := H
    have A15 := Aside0.mk A150
    clear A150
    by_cases c16 : t402 = 0
    ·rw [if_pos c16] at H
     have c16b0 : (t402 == 0) = true := beq_iff_eq.mpr c16
     have c16b1 : (t402 != 0) = false := bne_eq_false_iff_eq.mpr c16
     clear c16
     replace H := Option.bind_eq_some_iff.mp H
     obtain ⟨t403, A170, H⟩ := H
     replace H : (quaerelaw4_UnifyAny.j0 k l0 l1 l2 l3 t393 (!t403)) = some r := H
     have A17 := Aside0.mk A170
     clear A170
     have H' := Aside0.mk H
     clear H
     go_wp2_with (first | ((with_reducible refine gate_callee (f := 13) rfl ?_); refine goesL_ (some 37) rfl rfl Tryd.func13 (by kernel_rfl) rfl #[.int .i64 t394] rfl mA ?_; (with_reducible refine (quaerelaw0_Num.calls t394 t401 _ A13.out).mono ?_); rintro e w' ⟨rfl, ⟨nd, rfl⟩⟩; refine ⟨_, rfl, ?_⟩) | (go_at_call 13; (with_reducible refine (quaerelaw0_Num.calls t398 t402 _ A15.out).mono ?_); rintro e w' ⟨rfl, ⟨nd, rfl⟩⟩; obtain ⟨Ao18, co18, eo18⟩ := Kd.R_slice HO396.out; subst eo18; obtain ⟨Ao19, co19, eo19⟩ := Kd.R_slice HO400.out; subst eo19) | (go_at_call 18; (with_reducible refine (quaerelaw0_SameInts.calls k _ _ t393 _ _ t397 t403 _ ?side1 ?side2 ?side3 ?side4 A17.out).mono ?_); (case side1 => exact cK ((Kd.R_reads' HO396.out).2.2)); (case side2 => exact (Kd.R_reads' HO396.out).2.1); (case side3 => exact cK ((Kd.R_reads' HO400.out).2.2)); (case side4 => exact (Kd.R_reads' HO400.out).2.1); rintro e w' ⟨rfl, ⟨nd, rfl⟩⟩))
     go_meet
     case rel => exact ⟨_, (!t403), sK, H', ⟨by first | omega | exact Nat.le_refl _⟩, ⟨by (with_reducible repeat (first | apply Kd.R_alloc | apply Kd.R_drewN | apply Kd.R_drew)); exact Kd.R_mono HO396.out (fun _ hk => trivial)⟩, ⟨bB⟩⟩
    ·rw [if_neg c16] at H
     have c16b0 : (t402 == 0) = false := beq_eq_false_iff_ne.mpr c16
     have c16b1 : (t402 != 0) = true := bne_iff_ne.mpr c16
     have H' := Aside0.mk H
     clear H
     go_wp2_with (first | ((with_reducible refine gate_callee (f := 13) rfl ?_); refine goesL_ (some 37) rfl rfl Tryd.func13 (by kernel_rfl) rfl #[.int .i64 t394] rfl mA ?_; (with_reducible refine (quaerelaw0_Num.calls t394 t401 _ A13.out).mono ?_); rintro e w' ⟨rfl, ⟨nd, rfl⟩⟩; refine ⟨_, rfl, ?_⟩) | (go_at_call 13; (with_reducible refine (quaerelaw0_Num.calls t398 t402 _ A15.out).mono ?_); rintro e w' ⟨rfl, ⟨nd, rfl⟩⟩))
     go_meet
     case rel => exact ⟨_, (true), sK, H', ⟨by first | omega | exact Nat.le_refl _⟩, ⟨by (with_reducible repeat (first | apply Kd.R_alloc | apply Kd.R_drewN | apply Kd.R_drew)); exact Kd.R_mono HO396.out (fun _ hk => trivial)⟩, ⟨bB⟩⟩
   ·rw [if_neg c14] at H
    have c14b0 : (t401 == 0) = false := beq_eq_false_iff_ne.mpr c14
    have c14b1 : (t401 != 0) = true := bne_iff_ne.mpr c14
    (first | rw [c14b0] | (simp only [i64_w, i32_w]; rw [c14b0]) | skip)
    have H' := Aside0.mk H
    clear H
    go_wp2_with (first | ((with_reducible refine gate_callee (f := 13) rfl ?_); refine goesL_ (some 37) rfl rfl Tryd.func13 (by kernel_rfl) rfl #[.int .i64 t394] rfl mA ?_; (with_reducible refine (quaerelaw0_Num.calls t394 t401 _ A13.out).mono ?_); rintro e w' ⟨rfl, ⟨nd, rfl⟩⟩; refine ⟨_, rfl, ?_⟩))
    go_meet
    case rel => exact ⟨_, (true), sK, H', ⟨by first | omega | exact Nat.le_refl _⟩, ⟨by (with_reducible repeat (first | apply Kd.R_alloc | apply Kd.R_drewN | apply Kd.R_drew)); exact Kd.R_mono HO396.out (fun _ hk => trivial)⟩, ⟨bB⟩⟩
  case rest =>
   clear HC9
   try clear c1
   try clear c2
   try clear p2
   try clear c3
   try clear c6
   try clear c8
   try clear c13
   try clear c14
   try clear c14b0
   try clear c14b1
   try clear c16
   try clear c16b0
   try clear c16b1
   try clear c19
   obtain ⟨kq, x49_8, rfl, HA, HJ8, HO_9, HB⟩ := hcut
   cases kq with
   | zero => exact absurd HA.out (by simp [quaerelaw4_UnifyAny.j0])
   | succ kj8 =>
    have H := HA.out
    clear HA
    simp only [quaerelaw4_UnifyAny.j0] at H
    by_cases c20 : x49_8 = true
    ·subst c20
     have H1 : (some true) = some r := by rw [if_pos rfl] at H; exact H
     clear H
     have H := H1
     clear H1
     obtain rfl := Option.some.inj H
     go_wp2
     go_ret
     exact ⟨eK, bB⟩
    ·replace c20 := Bool.eq_false_iff.mpr c20
     subst c20
     have H1 : ((unify_Unify.f l0 l2 l3).bind fun bt404 => ((quaerelaw0_Num.f bt404.2.2).bind fun t409 => (if t409 = 0 then (quaerelaw4_UnifyAny.j1 kj8 l0 l1 l2 t393 bt404.1 (!bt404.2.1)) else (quaerelaw4_UnifyAny.j1 kj8 l0 l1 l2 t393 bt404.1 true)))) = some r := by rw [if_neg (show ¬ (false = true) by decide)] at H; exact H
     clear H
     have H := H1
     clear H1
     replace H := Option.bind_eq_some_iff.mp H
     obtain ⟨⟨t404, t405, t406⟩, A210, H⟩ := H
     replace H : ((quaerelaw0_Num.f t406).bind fun t409 => (if t409 = 0 then (quaerelaw4_UnifyAny.j1 kj8 l0 l1 l2 t393 t404 (!t405)) else (quaerelaw4_UnifyAny.j1 kj8 l0 l1 l2 t393 t404 true))) = some r := H
     have A21 := Aside0.mk A210
     clear A210
     have HC22 := Aside0.mk H
     clear H
     go_upto_region 8 with (first | ((with_reducible refine gate_callee (f := 10) rfl ?_); refine goesL_ (some 54) rfl rfl Tryd.func10 (by kernel_rfl) rfl #[.slice A0 l0.length c0, .slice A2 l2.length c2, .slice A3 l3.length c3] rfl mA ?_; (with_reducible refine (unify_Unify.calls (hG := gK) _ _ l0 _ _ l2 _ _ l3 t404 t405 t406 _ ?side1 ?side2 ?side3 ?side4 ?side5 ?side6 A21.out).mono ?_); (case side1 => exact cK (Kd.C_below HR0.out HB.out)); (case side2 => exact HC0.out); (case side3 => exact cK (Kd.C_below HR2.out HB.out)); (case side4 => exact HC2.out); (case side5 => exact cK (Kd.C_below HR3.out HB.out)); (case side6 => exact HC3.out); rintro e w23 ⟨v407, rfl, ho0, hb⟩; refine ⟨_, rfl, ?_⟩; have n0_ := Aside0.mk (Kd.R_below (rK HO_9) hb); have n1_ := Aside0.mk (Kd.S_lower (Kd.S_new' ho0 (Kd.R_lt (rK HO_9))) (below_size bB)); have n2_ := Aside0.mk (below_step bB hb); clear HO_9; clear HB; have HO_9 := n0_; have HO408 := n1_; have HB := n2_; clear n0_ n1_ n2_; (try clear hb); (try clear hb2); (try clear hk); (try clear hi); (try clear ho0)))
     (try simp only [Act.put, List.setIfInBounds_toArray, List.set_cons_zero, List.set_cons_succ])
     go_cut [64] (fun v64 wc => ∃ (kq : Nat) (x64_21 : Bool), v64 = .bool x64_21 ∧ Aside0 (quaerelaw4_UnifyAny.j1 kq l0 l1 l2 t393 t404 x64_21 = some r) ∧ Aside0 (kq ≤ kj8) ∧ Aside0 (Kd.R (Kd.int .i64) 3 wc w.heap.size (fun _ => True) v395 t393) ∧ Aside0 (Kd.S k41 41 wc w.heap.size (fun k_ => some k_ ≠ (v395 : Value).ownBlock) v407 t404) ∧ Aside0 (Below w.heap.size w wc))
     case first =>
      have H := HC22.out
      clear HC22
      replace H := Option.bind_eq_some_iff.mp H
      obtain ⟨t409, A240, H⟩ := H
      replace H : (if t409 = 0 then (quaerelaw4_UnifyAny.j1 kj8 l0 l1 l2 t393 t404 (!t405)) else (quaerelaw4_UnifyAny.j1 kj8 l0 l1 l2 t393 t404 true)) = some r := H
      have A24 := Aside0.mk A240
      clear A240
      by_cases c25 : t409 = 0
      ·rw [if_pos c25] at H
       have c25b0 : (t409 == 0) = true := beq_iff_eq.mpr c25
       have c25b1 : (t409 != 0) = false := bne_eq_false_iff_eq.mpr c25
       clear c25
       (first | rw [c25b0] | (simp only [i64_w, i32_w]; rw [c25b0]) | skip)
       have H' := Aside0.mk H
       clear H
       go_wp2_with (first | ((with_reducible refine gate_callee (f := 13) rfl ?_); refine goesL_ (some 59) rfl rfl Tryd.func13 (by kernel_rfl) rfl #[.int .i64 t406] rfl mA ?_; (with_reducible refine (quaerelaw0_Num.calls t406 t409 _ A24.out).mono ?_); rintro e w' ⟨rfl, ⟨nd, rfl⟩⟩; refine ⟨_, rfl, ?_⟩))
       go_meet
       case rel => exact ⟨_, (!t405), sK, H', ⟨by have := HJ8.out; first | omega | exact Nat.le_refl _⟩, ⟨by (with_reducible repeat (first | apply Kd.R_alloc | apply Kd.R_drewN | apply Kd.R_drew)); exact HO_9.out⟩, ⟨by (with_reducible repeat (first | apply Kd.S_alloc | apply Kd.S_drewN | apply Kd.S_drew)); exact Kd.S_mono HO408.out (fun _ hk => hk.2)⟩, ⟨bB⟩⟩
      ·rw [if_neg c25] at H
       have c25b0 : (t409 == 0) = false := beq_eq_false_iff_ne.mpr c25
       have c25b1 : (t409 != 0) = true := bne_iff_ne.mpr c25
       (first | rw [c25b0] | (simp only [i64_w, i32_w]; rw [c25b0]) | skip)
       have H' := Aside0.mk H
       clear H
       go_wp2_with (first | ((with_reducible refine gate_callee (f := 13) rfl ?_); refine goesL_ (some 59) rfl rfl Tryd.func13 (by kernel_rfl) rfl #[.int .i64 t406] rfl mA ?_; (with_reducible refine (quaerelaw0_Num.calls t406 t409 _ A24.out).mono ?_); rintro e w' ⟨rfl, ⟨nd, rfl⟩⟩; refine ⟨_, rfl, ?_⟩))
       go_meet
       case rel => exact ⟨_, (true), sK, H', ⟨by have := HJ8.out; first | omega | exact Nat.le_refl _⟩, ⟨by (with_reducible repeat (first | apply Kd.R_alloc | apply Kd.R_drewN | apply Kd.R_drew)); exact HO_9.out⟩, ⟨by (with_reducible repeat (first | apply Kd.S_alloc | apply Kd.S_drewN | apply Kd.S_drew)); exact Kd.S_mono HO408.out (fun _ hk => hk.2)⟩, ⟨bB⟩⟩
     case rest =>
      clear HC22
      try clear c1
      try clear c2
      try clear p2
      try clear c3
      try clear c6
      try clear c8
      try clear c10
      try clear c13
      try clear c14
      try clear c14b0
      try clear c14b1
      try clear c16
      try clear c16b0
      try clear c16b1
      try clear c19
      try clear c20
      try clear c25
      try clear c25b0
      try clear c25b1
      try clear p2
      obtain ⟨kq, x64_21, rfl, HA, HJ21, HO_9, HO_13, HB⟩ := hcut
      cases kq with
      | zero => exact absurd HA.out (by simp [quaerelaw4_UnifyAny.j1])
      | succ kj21 =>
       have H := HA.out
       clear HA
       simp only [quaerelaw4_UnifyAny.j1] at H
       by_cases c26 : x64_21 = true
       ·subst c26
        have H1 : (some false) = some r := by rw [if_pos rfl] at H; exact H
        clear H
        have H := H1
        clear H1
        obtain rfl := Option.some.inj H
        go_wp2
        go_ret
        exact ⟨eK, bB⟩
       ·replace c26 := Bool.eq_false_iff.mpr c26
        subst c26
        have H1 : ((bind_Then.f l0 t404 l1).bind fun bt410 => ((quaerelaw0_Num.f bt410.2).bind fun t414 => (if t414 = 0 then ((bind_Apply.f kj21 l0 bt410.1 l2).bind fun bt415 => ((quaerelaw0_Num.f bt415.2).bind fun t419 => (if t419 = 0 then ((quaerelaw0_SameInts.f kj21 bt415.1 t393).bind fun t420 => (some t420)) else (some false)))) else (some false)))) = some r := by rw [if_neg (show ¬ (false = true) by decide)] at H; exact H
        clear H
        have H := H1
        clear H1
        replace H := Option.bind_eq_some_iff.mp H
        obtain ⟨⟨t410, t411⟩, A270, H⟩ := H
        replace H : ((quaerelaw0_Num.f t411).bind fun t414 => (if t414 = 0 then ((bind_Apply.f kj21 l0 t410 l2).bind fun bt415 => ((quaerelaw0_Num.f bt415.2).bind fun t419 => (if t419 = 0 then ((quaerelaw0_SameInts.f kj21 bt415.1 t393).bind fun t420 => (some t420)) else (some false)))) else (some false))) = some r := H
        have A27 := Aside0.mk A270
        clear A270
        replace H := Option.bind_eq_some_iff.mp H
        obtain ⟨t414, A280, H⟩ := H
        replace H : (if t414 = 0 then ((bind_Apply.f kj21 l0 t410 l2).bind fun bt415 => ((quaerelaw0_Num.f bt415.2).bind fun t419 => (if t419 = 0 then ((quaerelaw0_SameInts.f kj21 bt415.1 t393).bind fun t420 => (some t420)) else (some false)))) else (some false)) = some r := H
        have A28 := Aside0.mk A280
        clear A280
        by_cases c29 : t414 = 0
        ·rw [if_pos c29] at H
         have c29b0 : (t414 == 0) = true := beq_iff_eq.mpr c29
         have c29b1 : (t414 != 0) = false := bne_eq_false_iff_eq.mpr c29
         clear c29
         replace H := Option.bind_eq_some_iff.mp H
         obtain ⟨⟨t415, t416⟩, A300, H⟩ := H
         replace H : ((quaerelaw0_Num.f t416).bind fun t419 => (if t419 = 0 then ((quaerelaw0_SameInts.f kj21 t415 t393).bind fun t420 => (some t420)) else (some false))) = some r := H
         have A30 := Aside0.mk A300
         clear A300
         replace H := Option.bind_eq_some_iff.mp H
         obtain ⟨t419, A310, H⟩ := H
         replace H : (if t419 = 0 then ((quaerelaw0_SameInts.f kj21 t415 t393).bind fun t420 => (some t420)) else (some false)) = some r := H
         have A31 := Aside0.mk A310
         clear A310
         by_cases c32 : t419 = 0
         ·rw [if_pos c32] at H
          have c32b0 : (t419 == 0) = true := beq_iff_eq.mpr c32
          have c32b1 : (t419 != 0) = false := bne_eq_false_iff_eq.mpr c32
          clear c32
          replace H := Option.bind_eq_some_iff.mp H
          obtain ⟨t420, A330, H⟩ := H
          replace H : (some t420) = some r := H
          have A33 := Aside0.mk A330
          clear A330
          obtain rfl := Option.some.inj H
          obtain ⟨Ao34, co34, eo34⟩ := Kd.S_slice HO_13.out
          subst eo34
          go_wp2_with (first | ((with_reducible refine gate_callee (f := 21) rfl ?_); refine goesL_ (some 69) rfl rfl Tryd.func21 (by kernel_rfl) rfl #[.slice A0 l0.length c0, .slice Ao34 t404.length co34, .slice A1 l1.length c1] rfl mA ?_; (with_reducible refine (bind_Then.calls (hG := gK) _ _ l0 _ _ t404 _ _ l1 t410 t411 _ ?side1 ?side2 ?side3 ?side4 ?side5 ?side6 A27.out).mono ?_); (case side1 => exact cK (Kd.C_below HR0.out HB.out)); (case side2 => exact HC0.out); (case side3 => exact cK ((Kd.S_reads' HO_13.out).2.2)); (case side4 => exact (Kd.S_reads' HO_13.out).2.1); (case side5 => exact cK (Kd.C_below HR1.out HB.out)); (case side6 => exact HC1.out); rintro e w35 ⟨v412, rfl, ho0, hb⟩; refine ⟨_, rfl, ?_⟩; have n0_ := Aside0.mk (Kd.R_below (rK HO_9) hb); have n1_ := Aside0.mk (Kd.S_elder' (by (with_reducible repeat (first | apply Kd.S_alloc | apply Kd.S_drewN | apply Kd.S_drew)); exact HO_13.out) (Kd.S_base ho0) hb); have n2_ := Aside0.mk (Kd.S_lower (Kd.S_new' (Kd.S_new' ho0 (Kd.R_lt (rK HO_9))) (Kd.S_lt (by (with_reducible repeat (first | apply Kd.S_alloc | apply Kd.S_drewN | apply Kd.S_drew)); exact HO_13.out))) (below_size bB)); have n3_ := Aside0.mk (below_step bB hb); clear HO_9; clear HO_13; clear HB; have HO_9 := n0_; have HO_13 := n1_; have HO413 := n2_; have HB := n3_; clear n0_ n1_ n2_ n3_; (try clear hb); (try clear hb2); (try clear hk); (try clear hi); (try clear ho0)) | ((with_reducible refine gate_callee (f := 13) rfl ?_); refine goesL_ (some 73) rfl rfl Tryd.func13 (by kernel_rfl) rfl #[.int .i64 t411] rfl mA ?_; (with_reducible refine (quaerelaw0_Num.calls t411 t414 _ A28.out).mono ?_); rintro e w' ⟨rfl, ⟨nd, rfl⟩⟩; refine ⟨_, rfl, ?_⟩; obtain ⟨Ao36, co36, eo36⟩ := Kd.S_slice HO413.out; subst eo36) | ((with_reducible refine gate_callee (f := 19) rfl ?_); refine goesL_ (some 79) rfl rfl Tryd.func19 (by kernel_rfl) rfl #[.slice A0 l0.length c0, .slice Ao36 t410.length co36, .slice A2 l2.length c2] rfl mA ?_; (with_reducible refine (bind_Apply.calls (hG := gK) kj21 _ _ l0 _ _ t410 _ _ l2 t415 t416 _ ?side1 ?side2 ?side3 ?side4 ?side5 ?side6 A30.out).mono ?_); (case side1 => exact cK (Kd.C_below HR0.out bB)); (case side2 => exact HC0.out); (case side3 => exact cK ((Kd.S_reads' HO413.out).2.2)); (case side4 => exact (Kd.S_reads' HO413.out).2.1); (case side5 => exact cK (Kd.C_below HR2.out bB)); (case side6 => exact HC2.out); rintro e w37 ⟨v417, rfl, ho0, hb⟩; refine ⟨_, rfl, ?_⟩; have n0_ := Aside0.mk (Kd.R_elder' (rK HO_9) (Kd.R_base ho0) hb); have n1_ := Aside0.mk (Kd.S_elder' (by (with_reducible repeat (first | apply Kd.S_alloc | apply Kd.S_drewN | apply Kd.S_drew)); exact HO_13.out) (Kd.R_base ho0) hb); have n2_ := Aside0.mk (Kd.S_elder' (by (with_reducible repeat (first | apply Kd.S_alloc | apply Kd.S_drewN | apply Kd.S_drew)); exact HO413.out) (Kd.R_base ho0) hb); have n3_ := Aside0.mk (Kd.R_lower (Kd.R_new' ho0 (Kd.R_lt (rK HO_9))) (below_size bB)); have n4_ := Aside0.mk (below_step bB hb); clear HO_9; clear HO_13; clear HO413; clear HB; have HO_9 := n0_; have HO_13 := n1_; have HO413 := n2_; have HO418 := n3_; have HB := n4_; clear n0_ n1_ n2_ n3_ n4_; (try clear hb); (try clear hb2); (try clear hk); (try clear hi); (try clear ho0)) | ((with_reducible refine gate_callee (f := 13) rfl ?_); refine goesL_ (some 83) rfl rfl Tryd.func13 (by kernel_rfl) rfl #[.int .i64 t416] rfl mA ?_; (with_reducible refine (quaerelaw0_Num.calls t416 t419 _ A31.out).mono ?_); rintro e w' ⟨rfl, ⟨nd, rfl⟩⟩; refine ⟨_, rfl, ?_⟩; obtain ⟨Ao38, co38, eo38⟩ := Kd.R_slice HO418.out; subst eo38; obtain ⟨Ao39, co39, eo39⟩ := Kd.R_slice HO_9.out; subst eo39) | (go_at_call 18; (with_reducible refine (quaerelaw0_SameInts.calls kj21 _ _ t415 _ _ t393 t420 _ ?side1 ?side2 ?side3 ?side4 A33.out).mono ?_); (case side1 => exact cK ((Kd.R_reads' HO418.out).2.2)); (case side2 => exact (Kd.R_reads' HO418.out).2.1); (case side3 => exact cK ((Kd.R_reads' HO_9.out).2.2)); (case side4 => exact (Kd.R_reads' HO_9.out).2.1); rintro e w' ⟨rfl, ⟨nd, rfl⟩⟩))
          go_ret
          exact ⟨eK, bB⟩
         ·rw [if_neg c32] at H
          have c32b0 : (t419 == 0) = false := beq_eq_false_iff_ne.mpr c32
          have c32b1 : (t419 != 0) = true := bne_iff_ne.mpr c32
          obtain rfl := Option.some.inj H
          obtain ⟨Ao40, co40, eo40⟩ := Kd.S_slice HO_13.out
          subst eo40
          go_wp2_with (first | ((with_reducible refine gate_callee (f := 21) rfl ?_); refine goesL_ (some 69) rfl rfl Tryd.func21 (by kernel_rfl) rfl #[.slice A0 l0.length c0, .slice Ao40 t404.length co40, .slice A1 l1.length c1] rfl mA ?_; (with_reducible refine (bind_Then.calls (hG := gK) _ _ l0 _ _ t404 _ _ l1 t410 t411 _ ?side1 ?side2 ?side3 ?side4 ?side5 ?side6 A27.out).mono ?_); (case side1 => exact cK (Kd.C_below HR0.out HB.out)); (case side2 => exact HC0.out); (case side3 => exact cK ((Kd.S_reads' HO_13.out).2.2)); (case side4 => exact (Kd.S_reads' HO_13.out).2.1); (case side5 => exact cK (Kd.C_below HR1.out HB.out)); (case side6 => exact HC1.out); rintro e w41 ⟨v412, rfl, ho0, hb⟩; refine ⟨_, rfl, ?_⟩; have n0_ := Aside0.mk (Kd.R_below (rK HO_9) hb); have n1_ := Aside0.mk (Kd.S_elder' (by (with_reducible repeat (first | apply Kd.S_alloc | apply Kd.S_drewN | apply Kd.S_drew)); exact HO_13.out) (Kd.S_base ho0) hb); have n2_ := Aside0.mk (Kd.S_lower (Kd.S_new' (Kd.S_new' ho0 (Kd.R_lt (rK HO_9))) (Kd.S_lt (by (with_reducible repeat (first | apply Kd.S_alloc | apply Kd.S_drewN | apply Kd.S_drew)); exact HO_13.out))) (below_size bB)); have n3_ := Aside0.mk (below_step bB hb); clear HO_9; clear HO_13; clear HB; have HO_9 := n0_; have HO_13 := n1_; have HO413 := n2_; have HB := n3_; clear n0_ n1_ n2_ n3_; (try clear hb); (try clear hb2); (try clear hk); (try clear hi); (try clear ho0)) | ((with_reducible refine gate_callee (f := 13) rfl ?_); refine goesL_ (some 73) rfl rfl Tryd.func13 (by kernel_rfl) rfl #[.int .i64 t411] rfl mA ?_; (with_reducible refine (quaerelaw0_Num.calls t411 t414 _ A28.out).mono ?_); rintro e w' ⟨rfl, ⟨nd, rfl⟩⟩; refine ⟨_, rfl, ?_⟩; obtain ⟨Ao42, co42, eo42⟩ := Kd.S_slice HO413.out; subst eo42) | ((with_reducible refine gate_callee (f := 19) rfl ?_); refine goesL_ (some 79) rfl rfl Tryd.func19 (by kernel_rfl) rfl #[.slice A0 l0.length c0, .slice Ao42 t410.length co42, .slice A2 l2.length c2] rfl mA ?_; (with_reducible refine (bind_Apply.calls (hG := gK) kj21 _ _ l0 _ _ t410 _ _ l2 t415 t416 _ ?side1 ?side2 ?side3 ?side4 ?side5 ?side6 A30.out).mono ?_); (case side1 => exact cK (Kd.C_below HR0.out bB)); (case side2 => exact HC0.out); (case side3 => exact cK ((Kd.S_reads' HO413.out).2.2)); (case side4 => exact (Kd.S_reads' HO413.out).2.1); (case side5 => exact cK (Kd.C_below HR2.out bB)); (case side6 => exact HC2.out); rintro e w43 ⟨v417, rfl, ho0, hb⟩; refine ⟨_, rfl, ?_⟩; have n0_ := Aside0.mk (Kd.R_elder' (rK HO_9) (Kd.R_base ho0) hb); have n1_ := Aside0.mk (Kd.S_elder' (by (with_reducible repeat (first | apply Kd.S_alloc | apply Kd.S_drewN | apply Kd.S_drew)); exact HO_13.out) (Kd.R_base ho0) hb); have n2_ := Aside0.mk (Kd.S_elder' (by (with_reducible repeat (first | apply Kd.S_alloc | apply Kd.S_drewN | apply Kd.S_drew)); exact HO413.out) (Kd.R_base ho0) hb); have n3_ := Aside0.mk (Kd.R_lower (Kd.R_new' ho0 (Kd.R_lt (rK HO_9))) (below_size bB)); have n4_ := Aside0.mk (below_step bB hb); clear HO_9; clear HO_13; clear HO413; clear HB; have HO_9 := n0_; have HO_13 := n1_; have HO413 := n2_; have HO418 := n3_; have HB := n4_; clear n0_ n1_ n2_ n3_ n4_; (try clear hb); (try clear hb2); (try clear hk); (try clear hi); (try clear ho0)) | ((with_reducible refine gate_callee (f := 13) rfl ?_); refine goesL_ (some 83) rfl rfl Tryd.func13 (by kernel_rfl) rfl #[.int .i64 t416] rfl mA ?_; (with_reducible refine (quaerelaw0_Num.calls t416 t419 _ A31.out).mono ?_); rintro e w' ⟨rfl, ⟨nd, rfl⟩⟩; refine ⟨_, rfl, ?_⟩))
          go_ret
          exact ⟨eK, bB⟩
        ·rw [if_neg c29] at H
         have c29b0 : (t414 == 0) = false := beq_eq_false_iff_ne.mpr c29
         have c29b1 : (t414 != 0) = true := bne_iff_ne.mpr c29
         obtain rfl := Option.some.inj H
         obtain ⟨Ao44, co44, eo44⟩ := Kd.S_slice HO_13.out
         subst eo44
         go_wp2_with (first | ((with_reducible refine gate_callee (f := 21) rfl ?_); refine goesL_ (some 69) rfl rfl Tryd.func21 (by kernel_rfl) rfl #[.slice A0 l0.length c0, .slice Ao44 t404.length co44, .slice A1 l1.length c1] rfl mA ?_; (with_reducible refine (bind_Then.calls (hG := gK) _ _ l0 _ _ t404 _ _ l1 t410 t411 _ ?side1 ?side2 ?side3 ?side4 ?side5 ?side6 A27.out).mono ?_); (case side1 => exact cK (Kd.C_below HR0.out HB.out)); (case side2 => exact HC0.out); (case side3 => exact cK ((Kd.S_reads' HO_13.out).2.2)); (case side4 => exact (Kd.S_reads' HO_13.out).2.1); (case side5 => exact cK (Kd.C_below HR1.out HB.out)); (case side6 => exact HC1.out); rintro e w45 ⟨v412, rfl, ho0, hb⟩; refine ⟨_, rfl, ?_⟩; have n0_ := Aside0.mk (Kd.R_below (rK HO_9) hb); have n1_ := Aside0.mk (Kd.S_elder' (by (with_reducible repeat (first | apply Kd.S_alloc | apply Kd.S_drewN | apply Kd.S_drew)); exact HO_13.out) (Kd.S_base ho0) hb); have n2_ := Aside0.mk (Kd.S_lower (Kd.S_new' (Kd.S_new' ho0 (Kd.R_lt (rK HO_9))) (Kd.S_lt (by (with_reducible repeat (first | apply Kd.S_alloc | apply Kd.S_drewN | apply Kd.S_drew)); exact HO_13.out))) (below_size bB)); have n3_ := Aside0.mk (below_step bB hb); clear HO_9; clear HO_13; clear HB; have HO_9 := n0_; have HO_13 := n1_; have HO413 := n2_; have HB := n3_; clear n0_ n1_ n2_ n3_; (try clear hb); (try clear hb2); (try clear hk); (try clear hi); (try clear ho0)) | ((with_reducible refine gate_callee (f := 13) rfl ?_); refine goesL_ (some 73) rfl rfl Tryd.func13 (by kernel_rfl) rfl #[.int .i64 t411] rfl mA ?_; (with_reducible refine (quaerelaw0_Num.calls t411 t414 _ A28.out).mono ?_); rintro e w' ⟨rfl, ⟨nd, rfl⟩⟩; refine ⟨_, rfl, ?_⟩))
         go_ret
         exact ⟨eK, bB⟩
 ·replace c6 := Bool.eq_false_iff.mpr c6
  subst c6
  have H1 : (some false) = some r := by rw [if_neg (show ¬ (false = true) by decide)] at H; exact H
  clear H
  have H := H1
  clear H1
  obtain rfl := Option.some.inj H
  go_enter Tryd.func8, Tryd.ntmps8
  go_wp2_with (first | ((with_reducible refine gate_callee (f := 16) rfl ?_); refine goesL_ (some 20) rfl rfl Tryd.func16 (by kernel_rfl) rfl #[] rfl mA ?_; (with_reducible refine (quaerelaw4_awake.calls (hG := gK) k  false _ A5.out).mono ?_); rintro e w46 ⟨rfl, hb⟩; refine ⟨_, rfl, ?_⟩; have n0_ := Aside0.mk (below_step bB hb); clear HB; have HB := n0_; clear n0_; (try clear hb); (try clear hb2); (try clear hk); (try clear hi)))
  go_ret
  exact ⟨eK, bB⟩

end Go.Proofs.YtaegdhpcnpojnaaDoor.PU
