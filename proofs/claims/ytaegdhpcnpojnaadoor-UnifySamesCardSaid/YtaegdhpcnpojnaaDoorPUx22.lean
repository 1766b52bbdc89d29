-- written by a program of this session's (wip/tools/pp.py), after the kit's print
import Derived.Test.YtaegdhpcnpojnaaDoorPUx0
import Derived.Test.YtaegdhpcnpojnaaDoorPUx4
import Derived.Test.YtaegdhpcnpojnaaDoorPUx12
import Derived.Test.YtaegdhpcnpojnaaDoorPUx15
import Derived.Test.YtaegdhpcnpojnaaDoorPUx19
import Derived.Test.YtaegdhpcnpojnaaDoorPUx21
namespace Go.Proofs.YtaegdhpcnpojnaaDoor.PU
open Go.RowKit Go.Proofs.YtaegdhpcnpojnaaDoorW.PrintWords Go.Proofs.YtaegdhpcnpojnaaDoorW.PrintLast Go.Proofs.YtaegdhpcnpojnaaDoorW.PrintMore
attribute [local go_sem] jump_ret max2_int min2_int max_two min_two max_three min_three max_four min_four   -- for this text's walks alone
set_option linter.unusedVariables false
set_option linter.unusedSimpArgs false

/-! ### quaerelaw4_UnifySames: function 6 -/
mutual
noncomputable def quaerelaw4_UnifySames.j0 : Nat → List (S66) → List Int → List Int → List (S41) → Bool → Int → Bool → Option (Bool)
 | 0, _, _, _, _, _, _, _ => none
 | k + 1, x0, x1, x2, x7, x8, x9, x53 => if x53 = true then (some false) else (if x8 = true then ((quaerelaw0_Num.f x9).bind fun t346 => (quaerelaw4_UnifySames.j1 k x0 x1 x2 x7 (t346 != 0))) else (quaerelaw4_UnifySames.j1 k x0 x1 x2 x7 true))
noncomputable def quaerelaw4_UnifySames.j1 : Nat → List (S66) → List Int → List Int → List (S41) → Bool → Option (Bool)
 | 0, _, _, _, _, _ => none
 | k + 1, x0, x1, x2, x7, x60 => if x60 = true then (some ((x7.length : Int) == 0)) else ((bind_Apply.f k x0 x7 x1).bind fun bt347 => ((bind_Apply.f k x0 x7 x2).bind fun bt351 => ((bind_May.f x0 x7).bind fun t355 => (if t355 = true then ((quaerelaw0_Num.f bt347.2).bind fun t356 => ((quaerelaw0_Num.f bt351.2).bind fun t357 => (if t356 = t357 then ((quaerelaw0_SameInts.f k bt347.1 bt351.1).bind fun t358 => (quaerelaw4_UnifySames.j2 k x0 x7 (!t358))) else (quaerelaw4_UnifySames.j2 k x0 x7 true)))) else (quaerelaw4_UnifySames.j2 k x0 x7 true)))))
noncomputable def quaerelaw4_UnifySames.j2 : Nat → List (S66) → List (S41) → Bool → Option (Bool)
 | 0, _, _, _ => none
 | k + 1, x0, x7, x94 => if x94 = true then (some false) else (quaerelaw4_UnifySames.l0 k x0 x7 0)
noncomputable def quaerelaw4_UnifySames.l0 : Nat → List (S66) → List (S41) → Int → Option (Bool)
 | 0, _, _, _ => none
 | k + 1, x0, x7, x17 => if x17 < (x7.length : Int) then (if 0 ≤ x17 then ((bind_Apply.f k x0 x7 ((rd_T41 x7 x17).f1)).bind fun bt360 => ((quaerelaw0_Num.f bt360.2).bind fun t364 => (if t364 = 0 then ((quaerelaw0_SameInts.f k bt360.1 ((rd_T41 x7 x17).f1)).bind fun t366 => (if t366 = true then (quaerelaw4_UnifySames.l0 k x0 x7 (wrap64 (x17 + 1))) else (some false))) else (some false)))) else (none)) else (some true)
end
noncomputable def quaerelaw4_UnifySames.f (k : Nat) (l0 : List (S66)) (l1 : List Int) (l2 : List Int) : Option (Bool) := (quaerelaw4_awake.f k).bind fun t332 => (if t332 = true then ((unify_Unify.f l0 l1 l2).bind fun bt333 => ((unify_Unify.f l0 l2 l1).bind fun bt338 => ((quaerelaw0_Num.f bt333.2.2).bind fun t343 => ((quaerelaw0_Num.f bt338.2.2).bind fun t344 => (if t343 = t344 then (if (bt333.2.1 != bt338.2.1) = true then (quaerelaw4_UnifySames.j0 k l0 l1 l2 bt333.1 bt333.2.1 bt333.2.2 true) else ((quaerelaw0_SameBinds.f k bt333.1 bt338.1).bind fun t345 => (quaerelaw4_UnifySames.j0 k l0 l1 l2 bt333.1 bt333.2.1 bt333.2.2 (!t345)))) else (quaerelaw4_UnifySames.j0 k l0 l1 l2 bt333.1 bt333.2.1 bt333.2.2 true)))))) else (some false))
theorem quaerelaw4_UnifySames.mono_l : ∀ k, (∀ y0 y1 y2 y3 y4 y5 y6, LeO (quaerelaw4_UnifySames.j0 k y0 y1 y2 y3 y4 y5 y6) (quaerelaw4_UnifySames.j0 (k + 1) y0 y1 y2 y3 y4 y5 y6)) ∧ (∀ y0 y1 y2 y3 y4, LeO (quaerelaw4_UnifySames.j1 k y0 y1 y2 y3 y4) (quaerelaw4_UnifySames.j1 (k + 1) y0 y1 y2 y3 y4)) ∧ (∀ y0 y1 y2, LeO (quaerelaw4_UnifySames.j2 k y0 y1 y2) (quaerelaw4_UnifySames.j2 (k + 1) y0 y1 y2)) ∧ (∀ y0 y1 y2, LeO (quaerelaw4_UnifySames.l0 k y0 y1 y2) (quaerelaw4_UnifySames.l0 (k + 1) y0 y1 y2))
 | 0 => ⟨fun _ _ _ _ _ _ _ r h => by simp [quaerelaw4_UnifySames.j0] at h, fun _ _ _ _ _ r h => by simp [quaerelaw4_UnifySames.j1] at h, fun _ _ _ r h => by simp [quaerelaw4_UnifySames.j2] at h, fun _ _ _ r h => by simp [quaerelaw4_UnifySames.l0] at h⟩
 | k + 1 => by
  obtain ⟨ih0, ih1, ih2, ih3⟩ := quaerelaw4_UnifySames.mono_l k
  refine ⟨?_, ?_, ?_, ?_⟩
  ·intro y0 y1 y2 y3 y4 y5 y6
   unfold quaerelaw4_UnifySames.j0
   repeat' first
   | (with_reducible exact ih0 _ _ _ _ _ _ _)
   | (with_reducible exact ih1 _ _ _ _ _)
   | (with_reducible exact ih2 _ _ _)
   | (with_reducible exact ih3 _ _ _)
   | (with_reducible exact bind_Apply.mono _ _ _ _)
   | (with_reducible exact quaerelaw0_SameBinds.mono _ _ _)
   | (with_reducible exact quaerelaw0_SameInts.mono _ _ _)
   | (with_reducible exact quaerelaw4_awake.mono _)
   | (with_reducible exact LeO.refl _)
   | (with_reducible exact LeO.none _)
   | (with_reducible refine LeO.ite ?_ ?_)
   | (with_reducible refine LeO.bind ?_ (fun _ => ?_))
   | exact ih0 _ _ _ _ _ _ _
   | exact ih1 _ _ _ _ _
   | exact ih2 _ _ _
   | exact ih3 _ _ _
   | exact bind_Apply.mono _ _ _ _
   | exact quaerelaw0_SameBinds.mono _ _ _
   | exact quaerelaw0_SameInts.mono _ _ _
   | exact quaerelaw4_awake.mono _
   | exact LeO.none _
   | refine LeO.ite ?_ ?_
   | refine LeO.bind ?_ (fun _ => ?_)
  ·intro y0 y1 y2 y3 y4
   unfold quaerelaw4_UnifySames.j1
   repeat' first
   | (with_reducible exact ih0 _ _ _ _ _ _ _)
   | (with_reducible exact ih1 _ _ _ _ _)
   | (with_reducible exact ih2 _ _ _)
   | (with_reducible exact ih3 _ _ _)
   | (with_reducible exact bind_Apply.mono _ _ _ _)
   | (with_reducible exact quaerelaw0_SameBinds.mono _ _ _)
   | (with_reducible exact quaerelaw0_SameInts.mono _ _ _)
   | (with_reducible exact quaerelaw4_awake.mono _)
   | (with_reducible exact LeO.refl _)
   | (with_reducible exact LeO.none _)
   | (with_reducible refine LeO.ite ?_ ?_)
   | (with_reducible refine LeO.bind ?_ (fun _ => ?_))
   | exact ih0 _ _ _ _ _ _ _
   | exact ih1 _ _ _ _ _
   | exact ih2 _ _ _
   | exact ih3 _ _ _
   | exact bind_Apply.mono _ _ _ _
   | exact quaerelaw0_SameBinds.mono _ _ _
   | exact quaerelaw0_SameInts.mono _ _ _
   | exact quaerelaw4_awake.mono _
   | exact LeO.none _
   | refine LeO.ite ?_ ?_
   | refine LeO.bind ?_ (fun _ => ?_)
  ·intro y0 y1 y2
   unfold quaerelaw4_UnifySames.j2
   repeat' first
   | (with_reducible exact ih0 _ _ _ _ _ _ _)
   | (with_reducible exact ih1 _ _ _ _ _)
   | (with_reducible exact ih2 _ _ _)
   | (with_reducible exact ih3 _ _ _)
   | (with_reducible exact bind_Apply.mono _ _ _ _)
   | (with_reducible exact quaerelaw0_SameBinds.mono _ _ _)
   | (with_reducible exact quaerelaw0_SameInts.mono _ _ _)
   | (with_reducible exact quaerelaw4_awake.mono _)
   | (with_reducible exact LeO.refl _)
   | (with_reducible exact LeO.none _)
   | (with_reducible refine LeO.ite ?_ ?_)
   | (with_reducible refine LeO.bind ?_ (fun _ => ?_))
   | exact ih0 _ _ _ _ _ _ _
   | exact ih1 _ _ _ _ _
   | exact ih2 _ _ _
   | exact ih3 _ _ _
   | exact bind_Apply.mono _ _ _ _
   | exact quaerelaw0_SameBinds.mono _ _ _
   | exact quaerelaw0_SameInts.mono _ _ _
   | exact quaerelaw4_awake.mono _
   | exact LeO.none _
   | refine LeO.ite ?_ ?_
   | refine LeO.bind ?_ (fun _ => ?_)
  ·intro y0 y1 y2
   unfold quaerelaw4_UnifySames.l0
   repeat' first
   | (with_reducible exact ih0 _ _ _ _ _ _ _)
   | (with_reducible exact ih1 _ _ _ _ _)
   | (with_reducible exact ih2 _ _ _)
   | (with_reducible exact ih3 _ _ _)
   | (with_reducible exact bind_Apply.mono _ _ _ _)
   | (with_reducible exact quaerelaw0_SameBinds.mono _ _ _)
   | (with_reducible exact quaerelaw0_SameInts.mono _ _ _)
   | (with_reducible exact quaerelaw4_awake.mono _)
   | (with_reducible exact LeO.refl _)
   | (with_reducible exact LeO.none _)
   | (with_reducible refine LeO.ite ?_ ?_)
   | (with_reducible refine LeO.bind ?_ (fun _ => ?_))
   | exact ih0 _ _ _ _ _ _ _
   | exact ih1 _ _ _ _ _
   | exact ih2 _ _ _
   | exact ih3 _ _ _
   | exact bind_Apply.mono _ _ _ _
   | exact quaerelaw0_SameBinds.mono _ _ _
   | exact quaerelaw0_SameInts.mono _ _ _
   | exact quaerelaw4_awake.mono _
   | exact LeO.none _
   | refine LeO.ite ?_ ?_
   | refine LeO.bind ?_ (fun _ => ?_)
theorem quaerelaw4_UnifySames.mono : ∀ a0 a1 a2 k, LeO (quaerelaw4_UnifySames.f k a0 a1 a2) (quaerelaw4_UnifySames.f (k + 1) a0 a1 a2) := by
 intro a0 a1 a2 k
 obtain ⟨ih0, ih1, ih2, ih3⟩ := quaerelaw4_UnifySames.mono_l k
 unfold quaerelaw4_UnifySames.f
 repeat' first
   | (with_reducible exact ih0 _ _ _ _ _ _ _)
   | (with_reducible exact ih1 _ _ _ _ _)
   | (with_reducible exact ih2 _ _ _)
   | (with_reducible exact ih3 _ _ _)
   | (with_reducible exact bind_Apply.mono _ _ _ _)
   | (with_reducible exact quaerelaw0_SameBinds.mono _ _ _)
   | (with_reducible exact quaerelaw0_SameInts.mono _ _ _)
   | (with_reducible exact quaerelaw4_awake.mono _)
   | (with_reducible exact LeO.refl _)
   | (with_reducible exact LeO.none _)
   | (with_reducible refine LeO.ite ?_ ?_)
   | (with_reducible refine LeO.bind ?_ (fun _ => ?_))
   | exact ih0 _ _ _ _ _ _ _
   | exact ih1 _ _ _ _ _
   | exact ih2 _ _ _
   | exact ih3 _ _ _
   | exact bind_Apply.mono _ _ _ _
   | exact quaerelaw0_SameBinds.mono _ _ _
   | exact quaerelaw0_SameInts.mono _ _ _
   | exact quaerelaw4_awake.mono _
   | exact LeO.none _
   | refine LeO.ite ?_ ?_
   | refine LeO.bind ?_ (fun _ => ?_)
set_option maxHeartbeats 8000000 in
set_option maxRecDepth 100000 in
theorem quaerelaw4_UnifySames.calls (k : Nat) (A0 : Option Addr) (c0 : Nat) (l0 : List (S66)) (A1 : Option Addr) (c1 : Nat) (l1 : List Int) (A2 : Option Addr) (c2 : Nat) (l2 : List Int) (r : Bool) (w : World) (hr0 : Kd.C k66 w A0 l0.length l0) (hc0 : l0.length ≤ c0) (hr1 : Kd.C (Kd.int .i64) w A1 l1.length l1) (hc1 : l1.length ≤ c1) (hr2 : Kd.C (Kd.int .i64) w A2 l2.length l2) (hc2 : l2.length ≤ c2) (h : quaerelaw4_UnifySames.f k l0 l1 l2 = some r) (hG : Glob w) :
  Calls Tryd.prog 6 #[.slice A0 l0.length c0, .slice A1 l1.length c1, .slice A2 l2.length c2] w fun e w' => e = .returned (.bool r) ∧ Below w.heap.size w w' := by
 have HR0 := Aside0.mk hr0
 have HC0 := Aside0.mk hc0
 clear hr0 hc0
 have HR1 := Aside0.mk hr1
 have HC1 := Aside0.mk hc1
 clear hr1 hc1
 have HR2 := Aside0.mk hr2
 have HC2 := Aside0.mk hc2
 clear hr2 hc2
 have HB := Aside0.mk (Below.refl w.heap.size w)
 have H : ((quaerelaw4_awake.f k).bind fun t332 => (if t332 = true then ((unify_Unify.f l0 l1 l2).bind fun bt333 => ((unify_Unify.f l0 l2 l1).bind fun bt338 => ((quaerelaw0_Num.f bt333.2.2).bind fun t343 => ((quaerelaw0_Num.f bt338.2.2).bind fun t344 => (if t343 = t344 then (if (bt333.2.1 != bt338.2.1) = true then (quaerelaw4_UnifySames.j0 k l0 l1 l2 bt333.1 bt333.2.1 bt333.2.2 true) else ((quaerelaw0_SameBinds.f k bt333.1 bt338.1).bind fun t345 => (quaerelaw4_UnifySames.j0 k l0 l1 l2 bt333.1 bt333.2.1 bt333.2.2 (!t345)))) else (quaerelaw4_UnifySames.j0 k l0 l1 l2 bt333.1 bt333.2.1 bt333.2.2 true)))))) else (some false))) = some r := h
 clear h
 replace H := Option.bind_eq_some_iff.mp H
 obtain ⟨t332, A40, H⟩ := H
 replace H : (if t332 = true then ((unify_Unify.f l0 l1 l2).bind fun bt333 => ((unify_Unify.f l0 l2 l1).bind fun bt338 => ((quaerelaw0_Num.f bt333.2.2).bind fun t343 => ((quaerelaw0_Num.f bt338.2.2).bind fun t344 => (if t343 = t344 then (if (bt333.2.1 != bt338.2.1) = true then (quaerelaw4_UnifySames.j0 k l0 l1 l2 bt333.1 bt333.2.1 bt333.2.2 true) else ((quaerelaw0_SameBinds.f k bt333.1 bt338.1).bind fun t345 => (quaerelaw4_UnifySames.j0 k l0 l1 l2 bt333.1 bt333.2.1 bt333.2.2 (!t345)))) else (quaerelaw4_UnifySames.j0 k l0 l1 l2 bt333.1 bt333.2.1 bt333.2.2 true)))))) else (some false)) = some r := H
 have A4 := Aside0.mk A40
 clear A40
 by_cases c5 : t332 = true
 ·subst c5
  have H1 : ((unify_Unify.f l0 l1 l2).bind fun bt333 => ((unify_Unify.f l0 l2 l1).bind fun bt338 => ((quaerelaw0_Num.f bt333.2.2).bind fun t343 => ((quaerelaw0_Num.f bt338.2.2).bind fun t344 => (if t343 = t344 then (if (bt333.2.1 != bt338.2.1) = true then (quaerelaw4_UnifySames.j0 k l0 l1 l2 bt333.1 bt333.2.1 bt333.2.2 true) else ((quaerelaw0_SameBinds.f k bt333.1 bt338.1).bind fun t345 => (quaerelaw4_UnifySames.j0 k l0 l1 l2 bt333.1 bt333.2.1 bt333.2.2 (!t345)))) else (quaerelaw4_UnifySames.j0 k l0 l1 l2 bt333.1 bt333.2.1 bt333.2.2 true)))))) = some r := by rw [if_pos rfl] at H; exact H
  clear H
  have H := H1
  clear H1
  replace H := Option.bind_eq_some_iff.mp H
  obtain ⟨⟨t333, t334, t335⟩, A60, H⟩ := H
  replace H : ((unify_Unify.f l0 l2 l1).bind fun bt338 => ((quaerelaw0_Num.f t335).bind fun t343 => ((quaerelaw0_Num.f bt338.2.2).bind fun t344 => (if t343 = t344 then (if (t334 != bt338.2.1) = true then (quaerelaw4_UnifySames.j0 k l0 l1 l2 t333 t334 t335 true) else ((quaerelaw0_SameBinds.f k t333 bt338.1).bind fun t345 => (quaerelaw4_UnifySames.j0 k l0 l1 l2 t333 t334 t335 (!t345)))) else (quaerelaw4_UnifySames.j0 k l0 l1 l2 t333 t334 t335 true))))) = some r := H
  have A6 := Aside0.mk A60
  clear A60
  replace H := Option.bind_eq_some_iff.mp H
  obtain ⟨⟨t338, t339, t340⟩, A70, H⟩ := H
  replace H : ((quaerelaw0_Num.f t335).bind fun t343 => ((quaerelaw0_Num.f t340).bind fun t344 => (if t343 = t344 then (if (t334 != t339) = true then (quaerelaw4_UnifySames.j0 k l0 l1 l2 t333 t334 t335 true) else ((quaerelaw0_SameBinds.f k t333 t338).bind fun t345 => (quaerelaw4_UnifySames.j0 k l0 l1 l2 t333 t334 t335 (!t345)))) else (quaerelaw4_UnifySames.j0 k l0 l1 l2 t333 t334 t335 true)))) = some r := H
  have A7 := Aside0.mk A70
  clear A70
  have HC8 := Aside0.mk H
  clear H
  go_enter Tryd.func6, Tryd.ntmps6
  go_upto_region 5 with (first | ((with_reducible refine gate_callee (f := 16) rfl ?_); refine goesL_ (some 20) rfl rfl Tryd.func16 (by kernel_rfl) rfl #[] rfl mA ?_; (with_reducible refine (quaerelaw4_awake.calls (hG := gK) k  true _ A4.out).mono ?_); rintro e w9 ⟨rfl, hb⟩; refine ⟨_, rfl, ?_⟩; have n0_ := Aside0.mk (below_step bB hb); clear HB; have HB := n0_; clear n0_; (try clear hb); (try clear hb2); (try clear hk); (try clear hi)) | ((with_reducible refine gate_callee (f := 10) rfl ?_); refine goesL_ (some 26) rfl rfl Tryd.func10 (by kernel_rfl) rfl #[.slice A0 l0.length c0, .slice A1 l1.length c1, .slice A2 l2.length c2] rfl mA ?_; (with_reducible refine (unify_Unify.calls (hG := gK) _ _ l0 _ _ l1 _ _ l2 t333 t334 t335 _ ?side1 ?side2 ?side3 ?side4 ?side5 ?side6 A6.out).mono ?_); (case side1 => exact cK (Kd.C_below HR0.out HB.out)); (case side2 => exact HC0.out); (case side3 => exact cK (Kd.C_below HR1.out HB.out)); (case side4 => exact HC1.out); (case side5 => exact cK (Kd.C_below HR2.out HB.out)); (case side6 => exact HC2.out); rintro e w10 ⟨v336, rfl, ho0, hb⟩; refine ⟨_, rfl, ?_⟩; have n0_ := Aside0.mk (Kd.S_lower ho0 (below_size bB)); have n1_ := Aside0.mk (below_step bB hb); clear HB; have HO337 := n0_; have HB := n1_; clear n0_ n1_; (try clear hb); (try clear hb2); (try clear hk); (try clear hi); (try clear ho0)) | ((with_reducible refine gate_callee (f := 10) rfl ?_); refine goesL_ (some 34) rfl rfl Tryd.func10 (by kernel_rfl) rfl #[.slice A0 l0.length c0, .slice A2 l2.length c2, .slice A1 l1.length c1] rfl mA ?_; (with_reducible refine (unify_Unify.calls (hG := gK) _ _ l0 _ _ l2 _ _ l1 t338 t339 t340 _ ?side1 ?side2 ?side3 ?side4 ?side5 ?side6 A7.out).mono ?_); (case side1 => exact cK (Kd.C_below HR0.out HB.out)); (case side2 => exact HC0.out); (case side3 => exact cK (Kd.C_below HR2.out HB.out)); (case side4 => exact HC2.out); (case side5 => exact cK (Kd.C_below HR1.out HB.out)); (case side6 => exact HC1.out); rintro e w11 ⟨v341, rfl, ho0, hb⟩; refine ⟨_, rfl, ?_⟩; have n0_ := Aside0.mk (Kd.S_elder' (by (with_reducible repeat (first | apply Kd.S_alloc | apply Kd.S_drewN | apply Kd.S_drew)); exact HO337.out) (Kd.S_base ho0) hb); have n1_ := Aside0.mk (Kd.S_lower (Kd.S_new' ho0 (Kd.S_lt (by (with_reducible repeat (first | apply Kd.S_alloc | apply Kd.S_drewN | apply Kd.S_drew)); exact HO337.out))) (below_size bB)); have n2_ := Aside0.mk (below_step bB hb); clear HO337; clear HB; have HO337 := n0_; have HO342 := n1_; have HB := n2_; clear n0_ n1_ n2_; (try clear hb); (try clear hb2); (try clear hk); (try clear hi); (try clear ho0)))
  (try simp only [Act.put, List.setIfInBounds_toArray, List.set_cons_zero, List.set_cons_succ])
  go_cut [53] (fun v53 wc => ∃ (kq : Nat) (x53_7 : Bool), v53 = .bool x53_7 ∧ Aside0 (quaerelaw4_UnifySames.j0 kq l0 l1 l2 t333 t334 t335 x53_7 = some r) ∧ Aside0 (kq ≤ k) ∧ Aside0 (Kd.S k41 41 wc w.heap.size (fun _ => True) v336 t333) ∧ Aside0 (Below w.heap.size w wc))
  case first =>
   have H := HC8.out
   clear HC8
   replace H := Option.bind_eq_some_iff.mp H
   obtain ⟨t343, A120, H⟩ := H
   replace H : ((quaerelaw0_Num.f t340).bind fun t344 => (if t343 = t344 then (if (t334 != t339) = true then (quaerelaw4_UnifySames.j0 k l0 l1 l2 t333 t334 t335 true) else ((quaerelaw0_SameBinds.f k t333 t338).bind fun t345 => (quaerelaw4_UnifySames.j0 k l0 l1 l2 t333 t334 t335 (!t345)))) else (quaerelaw4_UnifySames.j0 k l0 l1 l2 t333 t334 t335 true))) = some r := H
   have A12 := Aside0.mk A120
   clear A120
   replace H := Option.bind_eq_some_iff.mp H
   obtain ⟨t344, A130, H⟩ := H
   replace H : (if t343 = t344 then (if (t334 != t339) = true then (quaerelaw4_UnifySames.j0 k l0 l1 l2 t333 t334 t335 true) else ((quaerelaw0_SameBinds.f k t333 t338).bind fun t345 => (quaerelaw4_UnifySames.j0 k l0 l1 l2 t333 t334 t335 (!t345)))) else (quaerelaw4_UnifySames.j0 k l0 l1 l2 t333 t334 t335 true)) = some r := H
   have A13 := Aside0.mk A130
   clear A130
   by_cases c14 : t343 = t344
   ·rw [if_pos c14] at H
    have c14b0 : (t343 == t344) = true := beq_iff_eq.mpr c14
    have c14b1 : (t343 != t344) = false := bne_eq_false_iff_eq.mpr c14
    clear c14
    (first | rw [c14b0] | (simp only [i64_w, i32_w]; rw [c14b0]) | skip)
    by_cases c15 : (t334 != t339) = true
    ·rw [if_pos c15] at H
     have c15b0 : (t334 != t339) = true := c15
     (try (have c15b1 : decide (t334 = t339) = false := by simpa using c15))
     (try (have c15b2 : (t334 == t339) = false := by simpa using c15))
     (try (have c15b3 : ¬ (t334 = t339) := by simpa using c15))
     clear c15
     have H' := Aside0.mk H
     clear H
     go_wp2_with (first | ((with_reducible refine gate_callee (f := 13) rfl ?_); refine goesL_ (some 39) rfl rfl Tryd.func13 (by kernel_rfl) rfl #[.int .i64 t335] rfl mA ?_; (with_reducible refine (quaerelaw0_Num.calls t335 t343 _ A12.out).mono ?_); rintro e w' ⟨rfl, ⟨nd, rfl⟩⟩; refine ⟨_, rfl, ?_⟩) | ((with_reducible refine gate_callee (f := 13) rfl ?_); refine goesL_ (some 41) rfl rfl Tryd.func13 (by kernel_rfl) rfl #[.int .i64 t340] rfl mA ?_; (with_reducible refine (quaerelaw0_Num.calls t340 t344 _ A13.out).mono ?_); rintro e w' ⟨rfl, ⟨nd, rfl⟩⟩; refine ⟨_, rfl, ?_⟩))
     go_meet
     case rel => exact ⟨_, (true), sK, H', ⟨by first | omega | exact Nat.le_refl _⟩, ⟨by (with_reducible repeat (first | apply Kd.S_alloc | apply Kd.S_drewN | apply Kd.S_drew)); exact Kd.S_mono HO337.out (fun _ hk => trivial)⟩, ⟨bB⟩⟩
    ·rw [if_neg c15] at H
     have c15b0 : (t334 != t339) = false := by simpa using c15
     (try (have c15b1 : decide (t334 = t339) = true := by simpa using c15))
     (try (have c15b2 : (t334 == t339) = true := by simpa using c15))
     clear c15
     replace H := Option.bind_eq_some_iff.mp H
     obtain ⟨t345, A160, H⟩ := H
     replace H : (quaerelaw4_UnifySames.j0 k l0 l1 l2 t333 t334 t335 (!t345)) = some r := H
     have A16 := Aside0.mk A160
     clear A160
     have H' := Aside0.mk H
     clear H
     go_wp2_with (first | ((with_reducible refine gate_callee (f := 13) rfl ?_); refine goesL_ (some 39) rfl rfl Tryd.func13 (by kernel_rfl) rfl #[.int .i64 t335] rfl mA ?_; (with_reducible refine (quaerelaw0_Num.calls t335 t343 _ A12.out).mono ?_); rintro e w' ⟨rfl, ⟨nd, rfl⟩⟩; refine ⟨_, rfl, ?_⟩) | ((with_reducible refine gate_callee (f := 13) rfl ?_); refine goesL_ (some 41) rfl rfl Tryd.func13 (by kernel_rfl) rfl #[.int .i64 t340] rfl mA ?_; (with_reducible refine (quaerelaw0_Num.calls t340 t344 _ A13.out).mono ?_); rintro e w' ⟨rfl, ⟨nd, rfl⟩⟩; refine ⟨_, rfl, ?_⟩; obtain ⟨Ao17, co17, eo17⟩ := Kd.S_slice HO337.out; subst eo17; obtain ⟨Ao18, co18, eo18⟩ := Kd.S_slice HO342.out; subst eo18) | (go_at_call 12; (with_reducible refine (quaerelaw0_SameBinds.calls k _ _ t333 _ _ t338 t345 _ ?side1 ?side2 ?side3 ?side4 A16.out).mono ?_); (case side1 => exact cK ((Kd.S_reads' HO337.out).2.2)); (case side2 => exact (Kd.S_reads' HO337.out).2.1); (case side3 => exact cK ((Kd.S_reads' HO342.out).2.2)); (case side4 => exact (Kd.S_reads' HO342.out).2.1); rintro e w' ⟨rfl, ⟨nd, rfl⟩⟩))
     go_meet
     case rel => exact ⟨_, (!t345), sK, H', ⟨by first | omega | exact Nat.le_refl _⟩, ⟨by (with_reducible repeat (first | apply Kd.S_alloc | apply Kd.S_drewN | apply Kd.S_drew)); exact Kd.S_mono HO337.out (fun _ hk => trivial)⟩, ⟨bB⟩⟩
   ·rw [if_neg c14] at H
    have c14b0 : (t343 == t344) = false := beq_eq_false_iff_ne.mpr c14
    have c14b1 : (t343 != t344) = true := bne_iff_ne.mpr c14
    (first | rw [c14b0] | (simp only [i64_w, i32_w]; rw [c14b0]) | skip)
    have H' := Aside0.mk H
    clear H
    go_wp2_with (first | ((with_reducible refine gate_callee (f := 13) rfl ?_); refine goesL_ (some 39) rfl rfl Tryd.func13 (by kernel_rfl) rfl #[.int .i64 t335] rfl mA ?_; (with_reducible refine (quaerelaw0_Num.calls t335 t343 _ A12.out).mono ?_); rintro e w' ⟨rfl, ⟨nd, rfl⟩⟩; refine ⟨_, rfl, ?_⟩) | ((with_reducible refine gate_callee (f := 13) rfl ?_); refine goesL_ (some 41) rfl rfl Tryd.func13 (by kernel_rfl) rfl #[.int .i64 t340] rfl mA ?_; (with_reducible refine (quaerelaw0_Num.calls t340 t344 _ A13.out).mono ?_); rintro e w' ⟨rfl, ⟨nd, rfl⟩⟩; refine ⟨_, rfl, ?_⟩))
    go_meet
    case rel => exact ⟨_, (true), sK, H', ⟨by first | omega | exact Nat.le_refl _⟩, ⟨by (with_reducible repeat (first | apply Kd.S_alloc | apply Kd.S_drewN | apply Kd.S_drew)); exact Kd.S_mono HO337.out (fun _ hk => trivial)⟩, ⟨bB⟩⟩
  case rest =>
   clear HC8
   try clear c1
   try clear c2
   try clear p2
   try clear c5
   try clear c6
   try clear c10
   try clear c13
   try clear c14
   try clear c14b0
   try clear c14b1
   try clear c15
   try clear c15b0
   try clear c15b1
   try clear c15b2
   try clear c16
   obtain ⟨kq, x53_7, rfl, HA, HJ7, HO_7, HB⟩ := hcut
   cases kq with
   | zero => exact absurd HA.out (by simp [quaerelaw4_UnifySames.j0])
   | succ kj7 =>
    have H := HA.out
    clear HA
    simp only [quaerelaw4_UnifySames.j0] at H
    by_cases c19 : x53_7 = true
    ·subst c19
     have H1 : (some false) = some r := by rw [if_pos rfl] at H; exact H
     clear H
     have H := H1
     clear H1
     obtain rfl := Option.some.inj H
     go_wp2
     go_ret
     exact ⟨eK, bB⟩
    ·replace c19 := Bool.eq_false_iff.mpr c19
     subst c19
     have H1 : (if t334 = true then ((quaerelaw0_Num.f t335).bind fun t346 => (quaerelaw4_UnifySames.j1 kj7 l0 l1 l2 t333 (t346 != 0))) else (quaerelaw4_UnifySames.j1 kj7 l0 l1 l2 t333 true)) = some r := by rw [if_neg (show ¬ (false = true) by decide)] at H; exact H
     clear H
     have H := H1
     clear H1
     have HC20 := Aside0.mk H
     clear H
     go_upto_region 7 with (fail)
     go_cut [60] (fun v60 wc => ∃ (kq : Nat) (x60_19 : Bool), v60 = .bool x60_19 ∧ Aside0 (quaerelaw4_UnifySames.j1 kq l0 l1 l2 t333 x60_19 = some r) ∧ Aside0 (kq ≤ kj7) ∧ Aside0 (Kd.S k41 41 wc w.heap.size (fun _ => True) v336 t333) ∧ Aside0 (Below w.heap.size w wc))
     case first =>
      have H := HC20.out
      clear HC20
      by_cases c21 : t334 = true
      ·subst c21
       have H1 : ((quaerelaw0_Num.f t335).bind fun t346 => (quaerelaw4_UnifySames.j1 kj7 l0 l1 l2 t333 (t346 != 0))) = some r := by rw [if_pos rfl] at H; exact H
       clear H
       have H := H1
       clear H1
       replace H := Option.bind_eq_some_iff.mp H
       obtain ⟨t346, A220, H⟩ := H
       replace H : (quaerelaw4_UnifySames.j1 kj7 l0 l1 l2 t333 (t346 != 0)) = some r := H
       have A22 := Aside0.mk A220
       clear A220
       have H' := Aside0.mk H
       clear H
       go_wp2_with (first | (go_at_call 13; (with_reducible refine (quaerelaw0_Num.calls t335 t346 _ A22.out).mono ?_); rintro e w' ⟨rfl, ⟨nd, rfl⟩⟩))
       go_meet
       case rel => exact ⟨_, ((t346 != 0)), sK, H', ⟨by have := HJ7.out; first | omega | exact Nat.le_refl _⟩, ⟨by (with_reducible repeat (first | apply Kd.S_alloc | apply Kd.S_drewN | apply Kd.S_drew)); exact HO_7.out⟩, ⟨bB⟩⟩
      ·replace c21 := Bool.eq_false_iff.mpr c21
       subst c21
       have H1 : (quaerelaw4_UnifySames.j1 kj7 l0 l1 l2 t333 true) = some r := by rw [if_neg (show ¬ (false = true) by decide)] at H; exact H
       clear H
       have H := H1
       clear H1
       have H' := Aside0.mk H
       clear H
       go_wp2
       go_meet
       case rel => exact ⟨_, (true), sK, H', ⟨by have := HJ7.out; first | omega | exact Nat.le_refl _⟩, ⟨by (with_reducible repeat (first | apply Kd.S_alloc | apply Kd.S_drewN | apply Kd.S_drew)); exact HO_7.out⟩, ⟨bB⟩⟩
     case rest =>
      clear HC20
      try clear c1
      try clear c2
      try clear p2
      try clear c5
      try clear c6
      try clear c10
      try clear c13
      try clear c14
      try clear c14b0
      try clear c14b1
      try clear c15
      try clear c15b0
      try clear c15b1
      try clear c15b2
      try clear c16
      try clear c19
      try clear c21
      try clear p2
      obtain ⟨kq, x60_19, rfl, HA, HJ19, HO_7, HB⟩ := hcut
      cases kq with
      | zero => exact absurd HA.out (by simp [quaerelaw4_UnifySames.j1])
      | succ kj19 =>
       have H := HA.out
       clear HA
       simp only [quaerelaw4_UnifySames.j1] at H
       by_cases c23 : x60_19 = true
       ·subst c23
        have H1 : (some ((t333.length : Int) == 0)) = some r := by rw [if_pos rfl] at H; exact H
        clear H
        have H := H1
        clear H1
        obtain rfl := Option.some.inj H
        obtain ⟨Ao24, co24, eo24⟩ := Kd.S_slice HO_7.out
        subst eo24
        go_wp2
        go_ret
        exact ⟨eK, bB⟩
       ·replace c23 := Bool.eq_false_iff.mpr c23
        subst c23
        have H1 : ((bind_Apply.f kj19 l0 t333 l1).bind fun bt347 => ((bind_Apply.f kj19 l0 t333 l2).bind fun bt351 => ((bind_May.f l0 t333).bind fun t355 => (if t355 = true then ((quaerelaw0_Num.f bt347.2).bind fun t356 => ((quaerelaw0_Num.f bt351.2).bind fun t357 => (if t356 = t357 then ((quaerelaw0_SameInts.f kj19 bt347.1 bt351.1).bind fun t358 => (quaerelaw4_UnifySames.j2 kj19 l0 t333 (!t358))) else (quaerelaw4_UnifySames.j2 kj19 l0 t333 true)))) else (quaerelaw4_UnifySames.j2 kj19 l0 t333 true))))) = some r := by rw [if_neg (show ¬ (false = true) by decide)] at H; exact H
        clear H
        have H := H1
        clear H1
        replace H := Option.bind_eq_some_iff.mp H
        obtain ⟨⟨t347, t348⟩, A250, H⟩ := H
        replace H : ((bind_Apply.f kj19 l0 t333 l2).bind fun bt351 => ((bind_May.f l0 t333).bind fun t355 => (if t355 = true then ((quaerelaw0_Num.f t348).bind fun t356 => ((quaerelaw0_Num.f bt351.2).bind fun t357 => (if t356 = t357 then ((quaerelaw0_SameInts.f kj19 t347 bt351.1).bind fun t358 => (quaerelaw4_UnifySames.j2 kj19 l0 t333 (!t358))) else (quaerelaw4_UnifySames.j2 kj19 l0 t333 true)))) else (quaerelaw4_UnifySames.j2 kj19 l0 t333 true)))) = some r := H
        have A25 := Aside0.mk A250
        clear A250
        replace H := Option.bind_eq_some_iff.mp H
        obtain ⟨⟨t351, t352⟩, A260, H⟩ := H
        replace H : ((bind_May.f l0 t333).bind fun t355 => (if t355 = true then ((quaerelaw0_Num.f t348).bind fun t356 => ((quaerelaw0_Num.f t352).bind fun t357 => (if t356 = t357 then ((quaerelaw0_SameInts.f kj19 t347 t351).bind fun t358 => (quaerelaw4_UnifySames.j2 kj19 l0 t333 (!t358))) else (quaerelaw4_UnifySames.j2 kj19 l0 t333 true)))) else (quaerelaw4_UnifySames.j2 kj19 l0 t333 true))) = some r := H
        have A26 := Aside0.mk A260
        clear A260
        have HC27 := Aside0.mk H
        clear H
        obtain ⟨Ao28, co28, eo28⟩ := Kd.S_slice HO_7.out
        subst eo28
        go_upto_region 11 with (first | ((with_reducible refine gate_callee (f := 19) rfl ?_); refine goesL_ (some 68) rfl rfl Tryd.func19 (by kernel_rfl) rfl #[.slice A0 l0.length c0, .slice Ao28 t333.length co28, .slice A1 l1.length c1] rfl mA ?_; (with_reducible refine (bind_Apply.calls (hG := gK) kj19 _ _ l0 _ _ t333 _ _ l1 t347 t348 _ ?side1 ?side2 ?side3 ?side4 ?side5 ?side6 A25.out).mono ?_); (case side1 => exact cK (Kd.C_below HR0.out HB.out)); (case side2 => exact HC0.out); (case side3 => exact cK ((Kd.S_reads' HO_7.out).2.2)); (case side4 => exact (Kd.S_reads' HO_7.out).2.1); (case side5 => exact cK (Kd.C_below HR1.out HB.out)); (case side6 => exact HC1.out); rintro e w29 ⟨v349, rfl, ho0, hb⟩; refine ⟨_, rfl, ?_⟩; have n0_ := Aside0.mk (Kd.S_elder' (by (with_reducible repeat (first | apply Kd.S_alloc | apply Kd.S_drewN | apply Kd.S_drew)); exact HO_7.out) (Kd.R_base ho0) hb); have n1_ := Aside0.mk (Kd.R_lower ho0 (below_size bB)); have n2_ := Aside0.mk (below_step bB hb); clear HO_7; clear HB; have HO_7 := n0_; have HO350 := n1_; have HB := n2_; clear n0_ n1_ n2_; (try clear hb); (try clear hb2); (try clear hk); (try clear hi); (try clear ho0)) | ((with_reducible refine gate_callee (f := 19) rfl ?_); refine goesL_ (some 75) rfl rfl Tryd.func19 (by kernel_rfl) rfl #[.slice A0 l0.length c0, .slice Ao28 t333.length co28, .slice A2 l2.length c2] rfl mA ?_; (with_reducible refine (bind_Apply.calls (hG := gK) kj19 _ _ l0 _ _ t333 _ _ l2 t351 t352 _ ?side1 ?side2 ?side3 ?side4 ?side5 ?side6 A26.out).mono ?_); (case side1 => exact cK (Kd.C_below HR0.out HB.out)); (case side2 => exact HC0.out); (case side3 => exact cK ((Kd.S_reads' HO_7.out).2.2)); (case side4 => exact (Kd.S_reads' HO_7.out).2.1); (case side5 => exact cK (Kd.C_below HR2.out HB.out)); (case side6 => exact HC2.out); rintro e w30 ⟨v353, rfl, ho0, hb⟩; refine ⟨_, rfl, ?_⟩; have n0_ := Aside0.mk (Kd.S_elder' (by (with_reducible repeat (first | apply Kd.S_alloc | apply Kd.S_drewN | apply Kd.S_drew)); exact HO_7.out) (Kd.R_base ho0) hb); have n1_ := Aside0.mk (Kd.R_elder' (rK HO350) (Kd.R_base ho0) hb); have n2_ := Aside0.mk (Kd.R_lower (Kd.R_new' ho0 (Kd.R_lt (rK HO350))) (below_size bB)); have n3_ := Aside0.mk (below_step bB hb); clear HO_7; clear HO350; clear HB; have HO_7 := n0_; have HO350 := n1_; have HO354 := n2_; have HB := n3_; clear n0_ n1_ n2_ n3_; (try clear hb); (try clear hb2); (try clear hk); (try clear hi); (try clear ho0)))
        (try simp only [Act.put, List.setIfInBounds_toArray, List.set_cons_zero, List.set_cons_succ])
        go_cut [94] (fun v94 wc => ∃ (kq : Nat) (x94_26 : Bool), v94 = .bool x94_26 ∧ Aside0 (quaerelaw4_UnifySames.j2 kq l0 t333 x94_26 = some r) ∧ Aside0 (kq ≤ kj19) ∧ Aside0 (Kd.S k41 41 wc w.heap.size (fun _ => True) (.slice Ao28 t333.length co28) t333) ∧ Aside0 (Below w.heap.size w wc))
        case first =>
         have H := HC27.out
         clear HC27
         replace H := Option.bind_eq_some_iff.mp H
         obtain ⟨t355, A310, H⟩ := H
         replace H : (if t355 = true then ((quaerelaw0_Num.f t348).bind fun t356 => ((quaerelaw0_Num.f t352).bind fun t357 => (if t356 = t357 then ((quaerelaw0_SameInts.f kj19 t347 t351).bind fun t358 => (quaerelaw4_UnifySames.j2 kj19 l0 t333 (!t358))) else (quaerelaw4_UnifySames.j2 kj19 l0 t333 true)))) else (quaerelaw4_UnifySames.j2 kj19 l0 t333 true)) = some r := H
         have A31 := Aside0.mk A310
         clear A310
         by_cases c32 : t355 = true
         ·subst c32
          have H1 : ((quaerelaw0_Num.f t348).bind fun t356 => ((quaerelaw0_Num.f t352).bind fun t357 => (if t356 = t357 then ((quaerelaw0_SameInts.f kj19 t347 t351).bind fun t358 => (quaerelaw4_UnifySames.j2 kj19 l0 t333 (!t358))) else (quaerelaw4_UnifySames.j2 kj19 l0 t333 true)))) = some r := by rw [if_pos rfl] at H; exact H
          clear H
          have H := H1
          clear H1
          replace H := Option.bind_eq_some_iff.mp H
          obtain ⟨t356, A330, H⟩ := H
          replace H : ((quaerelaw0_Num.f t352).bind fun t357 => (if t356 = t357 then ((quaerelaw0_SameInts.f kj19 t347 t351).bind fun t358 => (quaerelaw4_UnifySames.j2 kj19 l0 t333 (!t358))) else (quaerelaw4_UnifySames.j2 kj19 l0 t333 true))) = some r := H
          have A33 := Aside0.mk A330
          clear A330
          replace H := Option.bind_eq_some_iff.mp H
          obtain ⟨t357, A340, H⟩ := H
          replace H : (if t356 = t357 then ((quaerelaw0_SameInts.f kj19 t347 t351).bind fun t358 => (quaerelaw4_UnifySames.j2 kj19 l0 t333 (!t358))) else (quaerelaw4_UnifySames.j2 kj19 l0 t333 true)) = some r := H
          have A34 := Aside0.mk A340
          clear A340
          by_cases c35 : t356 = t357
          ·rw [if_pos c35] at H
           have c35b0 : (t356 == t357) = true := beq_iff_eq.mpr c35
           have c35b1 : (t356 != t357) = false := bne_eq_false_iff_eq.mpr c35
           clear c35
           (first | rw [c35b0] | (simp only [i64_w, i32_w]; rw [c35b0]) | skip)
           replace H := Option.bind_eq_some_iff.mp H
           obtain ⟨t358, A360, H⟩ := H
           replace H : (quaerelaw4_UnifySames.j2 kj19 l0 t333 (!t358)) = some r := H
           have A36 := Aside0.mk A360
           clear A360
           have H' := Aside0.mk H
           clear H
           go_wp2_with (first | ((with_reducible refine gate_callee (f := 20) rfl ?_); refine goesL_ (some 80) rfl rfl Tryd.func20 (by kernel_rfl) rfl #[.slice A0 l0.length c0, .slice Ao28 t333.length co28] rfl mA ?_; (with_reducible refine (bind_May.calls (hG := gK) _ _ l0 _ _ t333 true _ ?side1 ?side2 ?side3 ?side4 A31.out).mono ?_); (case side1 => exact cK (Kd.C_below HR0.out HB.out)); (case side2 => exact HC0.out); (case side3 => exact cK ((Kd.S_reads' HO_7.out).2.2)); (case side4 => exact (Kd.S_reads' HO_7.out).2.1); rintro e w37 ⟨rfl, hb⟩; refine ⟨_, rfl, ?_⟩; have n0_ := Aside0.mk (Kd.S_below (by (with_reducible repeat (first | apply Kd.S_alloc | apply Kd.S_drewN | apply Kd.S_drew)); exact HO_7.out) hb); have n1_ := Aside0.mk (Kd.R_below (rK HO350) hb); have n2_ := Aside0.mk (Kd.R_below (rK HO354) hb); have n3_ := Aside0.mk (below_step bB hb); clear HO_7; clear HO350; clear HO354; clear HB; have HO_7 := n0_; have HO350 := n1_; have HO354 := n2_; have HB := n3_; clear n0_ n1_ n2_ n3_; (try clear hb); (try clear hb2); (try clear hk); (try clear hi)) | (go_at_call 13; (with_reducible refine (quaerelaw0_Num.calls t348 t356 _ A33.out).mono ?_); rintro e w' ⟨rfl, ⟨nd, rfl⟩⟩) | (go_at_call 13; (with_reducible refine (quaerelaw0_Num.calls t352 t357 _ A34.out).mono ?_); rintro e w' ⟨rfl, ⟨nd, rfl⟩⟩; obtain ⟨Ao38, co38, eo38⟩ := Kd.R_slice HO350.out; subst eo38; obtain ⟨Ao39, co39, eo39⟩ := Kd.R_slice HO354.out; subst eo39) | (go_at_call 18; (with_reducible refine (quaerelaw0_SameInts.calls kj19 _ _ t347 _ _ t351 t358 _ ?side1 ?side2 ?side3 ?side4 A36.out).mono ?_); (case side1 => exact cK ((Kd.R_reads' HO350.out).2.2)); (case side2 => exact (Kd.R_reads' HO350.out).2.1); (case side3 => exact cK ((Kd.R_reads' HO354.out).2.2)); (case side4 => exact (Kd.R_reads' HO354.out).2.1); rintro e w' ⟨rfl, ⟨nd, rfl⟩⟩))
           go_meet
           case rel => exact ⟨_, (!t358), sK, H', ⟨by have := HJ7.out; have := HJ19.out; first | omega | exact Nat.le_refl _⟩, ⟨by (with_reducible repeat (first | apply Kd.S_alloc | apply Kd.S_drewN | apply Kd.S_drew)); exact Kd.S_mono HO_7.out (fun _ hk => trivial)⟩, ⟨bB⟩⟩
          ·rw [if_neg c35] at H
           have c35b0 : (t356 == t357) = false := beq_eq_false_iff_ne.mpr c35
           have c35b1 : (t356 != t357) = true := bne_iff_ne.mpr c35
           (first | rw [c35b0] | (simp only [i64_w, i32_w]; rw [c35b0]) | skip)
           have H' := Aside0.mk H
           clear H
           go_wp2_with (first | ((with_reducible refine gate_callee (f := 20) rfl ?_); refine goesL_ (some 80) rfl rfl Tryd.func20 (by kernel_rfl) rfl #[.slice A0 l0.length c0, .slice Ao28 t333.length co28] rfl mA ?_; (with_reducible refine (bind_May.calls (hG := gK) _ _ l0 _ _ t333 true _ ?side1 ?side2 ?side3 ?side4 A31.out).mono ?_); (case side1 => exact cK (Kd.C_below HR0.out HB.out)); (case side2 => exact HC0.out); (case side3 => exact cK ((Kd.S_reads' HO_7.out).2.2)); (case side4 => exact (Kd.S_reads' HO_7.out).2.1); rintro e w40 ⟨rfl, hb⟩; refine ⟨_, rfl, ?_⟩; have n0_ := Aside0.mk (Kd.S_below (by (with_reducible repeat (first | apply Kd.S_alloc | apply Kd.S_drewN | apply Kd.S_drew)); exact HO_7.out) hb); have n1_ := Aside0.mk (Kd.R_below (rK HO350) hb); have n2_ := Aside0.mk (Kd.R_below (rK HO354) hb); have n3_ := Aside0.mk (below_step bB hb); clear HO_7; clear HO350; clear HO354; clear HB; have HO_7 := n0_; have HO350 := n1_; have HO354 := n2_; have HB := n3_; clear n0_ n1_ n2_ n3_; (try clear hb); (try clear hb2); (try clear hk); (try clear hi)) | (go_at_call 13; (with_reducible refine (quaerelaw0_Num.calls t348 t356 _ A33.out).mono ?_); rintro e w' ⟨rfl, ⟨nd, rfl⟩⟩) | (go_at_call 13; (with_reducible refine (quaerelaw0_Num.calls t352 t357 _ A34.out).mono ?_); rintro e w' ⟨rfl, ⟨nd, rfl⟩⟩))
           go_meet
           case rel => exact ⟨_, (true), sK, H', ⟨by have := HJ7.out; have := HJ19.out; first | omega | exact Nat.le_refl _⟩, ⟨by (with_reducible repeat (first | apply Kd.S_alloc | apply Kd.S_drewN | apply Kd.S_drew)); exact Kd.S_mono HO_7.out (fun _ hk => trivial)⟩, ⟨bB⟩⟩
         ·replace c32 := Bool.eq_false_iff.mpr c32
          subst c32
          have H1 : (quaerelaw4_UnifySames.j2 kj19 l0 t333 true) = some r := by rw [if_neg (show ¬ (false = true) by decide)] at H; exact H
          clear H
          have H := H1
          clear H1
          have H' := Aside0.mk H
          clear H
          go_wp2_with (first | ((with_reducible refine gate_callee (f := 20) rfl ?_); refine goesL_ (some 80) rfl rfl Tryd.func20 (by kernel_rfl) rfl #[.slice A0 l0.length c0, .slice Ao28 t333.length co28] rfl mA ?_; (with_reducible refine (bind_May.calls (hG := gK) _ _ l0 _ _ t333 false _ ?side1 ?side2 ?side3 ?side4 A31.out).mono ?_); (case side1 => exact cK (Kd.C_below HR0.out HB.out)); (case side2 => exact HC0.out); (case side3 => exact cK ((Kd.S_reads' HO_7.out).2.2)); (case side4 => exact (Kd.S_reads' HO_7.out).2.1); rintro e w41 ⟨rfl, hb⟩; refine ⟨_, rfl, ?_⟩; have n0_ := Aside0.mk (Kd.S_below (by (with_reducible repeat (first | apply Kd.S_alloc | apply Kd.S_drewN | apply Kd.S_drew)); exact HO_7.out) hb); have n1_ := Aside0.mk (Kd.R_below (rK HO350) hb); have n2_ := Aside0.mk (Kd.R_below (rK HO354) hb); have n3_ := Aside0.mk (below_step bB hb); clear HO_7; clear HO350; clear HO354; clear HB; have HO_7 := n0_; have HO350 := n1_; have HO354 := n2_; have HB := n3_; clear n0_ n1_ n2_ n3_; (try clear hb); (try clear hb2); (try clear hk); (try clear hi)))
          go_meet
          case rel => exact ⟨_, (true), sK, H', ⟨by have := HJ7.out; have := HJ19.out; first | omega | exact Nat.le_refl _⟩, ⟨by (with_reducible repeat (first | apply Kd.S_alloc | apply Kd.S_drewN | apply Kd.S_drew)); exact Kd.S_mono HO_7.out (fun _ hk => trivial)⟩, ⟨bB⟩⟩
        case rest =>
         clear HC27
         try clear c1
         try clear c2
         try clear p2
         try clear c3
         try clear c5
         try clear c6
         try clear c10
         try clear c13
         try clear c14
         try clear c14b0
         try clear c14b1
         try clear c15
         try clear c15b0
         try clear c15b1
         try clear c15b2
         try clear c16
         try clear c19
         try clear c20
         try clear c21
         try clear c23
         try clear c32
         try clear c35
         try clear c35b0
         try clear c35b1
         try clear p2
         obtain ⟨kq, x94_26, rfl, HA, HJ26, HO_7, HB⟩ := hcut
         cases kq with
         | zero => exact absurd HA.out (by simp [quaerelaw4_UnifySames.j2])
         | succ kj26 =>
          have H := HA.out
          clear HA
          simp only [quaerelaw4_UnifySames.j2] at H
          by_cases c42 : x94_26 = true
          ·subst c42
           have H1 : (some false) = some r := by rw [if_pos rfl] at H; exact H
           clear H
           have H := H1
           clear H1
           obtain rfl := Option.some.inj H
           go_wp2
           go_ret
           exact ⟨eK, bB⟩
          ·replace c42 := Bool.eq_false_iff.mpr c42
           subst c42
           have H1 : (quaerelaw4_UnifySames.l0 kj26 l0 t333 0) = some r := by rw [if_neg (show ¬ (false = true) by decide)] at H; exact H
           clear H
           have H := H1
           clear H1
           have H' := Aside0.mk H
           clear H
           go_wp2
           go_loopg [17] kj26 (fun kq v17 w' => ∃ (x17_4 : Int), v17 = .int .i64 x17_4 ∧ Aside0 (quaerelaw4_UnifySames.l0 kq l0 t333 x17_4 = some r) ∧ Aside0 (kq ≤ kj26) ∧ Aside0 (Kd.S k41 41 w' w.heap.size (fun _ => True) (.slice Ao28 t333.length co28) t333) ∧ Aside0 (Below w.heap.size w w'))
           case atStart => exact ⟨(0), sK, H', ⟨Nat.le_refl _⟩, ⟨by (with_reducible repeat (first | apply Kd.S_alloc | apply Kd.S_drewN | apply Kd.S_drew)); exact HO_7.out⟩, ⟨bB⟩⟩
           case round =>
            clear H'
            try clear c1
            try clear c2
            try clear p2
            try clear c3
            try clear c4
            try clear c5
            try clear c6
            try clear c10
            try clear c13
            try clear c14
            try clear c14b0
            try clear c14b1
            try clear c15
            try clear c15b0
            try clear c15b1
            try clear c15b2
            try clear c16
            try clear c19
            try clear c20
            try clear c21
            try clear c23
            try clear c32
            try clear c35
            try clear c35b0
            try clear c35b1
            try clear c42
            try clear p2
            obtain ⟨x17_4, rfl, HA, HK4, HO_7, HB⟩ := hrel
            cases gk with
            | zero => exact absurd HA.out (by simp [quaerelaw4_UnifySames.l0])
            | succ k4 =>
             have H := HA.out
             clear HA
             simp only [quaerelaw4_UnifySames.l0] at H
             by_cases c43 : x17_4 < (t333.length : Int)
             ·rw [if_pos c43] at H
              have c43b0 : decide (x17_4 < (t333.length : Int)) = true := decide_eq_true c43
              clear c43
              by_cases c44 : 0 ≤ x17_4
              ·rw [if_pos c44] at H
               have c44b0 : decide (0 ≤ x17_4) = true := decide_eq_true c44
               clear c44
               replace H := Option.bind_eq_some_iff.mp H
               obtain ⟨⟨t360, t361⟩, A450, H⟩ := H
               replace H : ((quaerelaw0_Num.f t361).bind fun t364 => (if t364 = 0 then ((quaerelaw0_SameInts.f k4 t360 ((rd_T41 t333 x17_4).f1)).bind fun t366 => (if t366 = true then (quaerelaw4_UnifySames.l0 k4 l0 t333 (wrap64 (x17_4 + 1))) else (some false))) else (some false))) = some r := H
               have A45 := Aside0.mk A450
               clear A450
               replace H := Option.bind_eq_some_iff.mp H
               obtain ⟨t364, A460, H⟩ := H
               replace H : (if t364 = 0 then ((quaerelaw0_SameInts.f k4 t360 ((rd_T41 t333 x17_4).f1)).bind fun t366 => (if t366 = true then (quaerelaw4_UnifySames.l0 k4 l0 t333 (wrap64 (x17_4 + 1))) else (some false))) else (some false)) = some r := H
               have A46 := Aside0.mk A460
               clear A460
               by_cases c47 : t364 = 0
               ·rw [if_pos c47] at H
                have c47b0 : (t364 == 0) = true := beq_iff_eq.mpr c47
                have c47b1 : (t364 != 0) = false := bne_eq_false_iff_eq.mpr c47
                clear c47
                replace H := Option.bind_eq_some_iff.mp H
                obtain ⟨t366, A480, H⟩ := H
                replace H : (if t366 = true then (quaerelaw4_UnifySames.l0 k4 l0 t333 (wrap64 (x17_4 + 1))) else (some false)) = some r := H
                have A48 := Aside0.mk A480
                clear A480
                by_cases c49 : t366 = true
                ·subst c49
                 have H1 : (quaerelaw4_UnifySames.l0 k4 l0 t333 (wrap64 (x17_4 + 1))) = some r := by rw [if_pos rfl] at H; exact H
                 clear H
                 have H := H1
                 clear H1
                 have H' := Aside0.mk H
                 clear H
                 have p359 : 0 ≤ (x17_4 : Int) := of_decide_eq_true aK
                 have q359 : x17_4 < (t333.length : Int) := of_decide_eq_true aK
                 obtain ⟨ad359, A359_1, c359_1, e359, hx359_0, hx359_1, hl359_1, hi359_1⟩ := at_T41 (Kd.S_reads' HO_7.out).2.2 x17_4 p359 q359
                 cases e359
                 obtain ⟨ce359, hce359, hMe359, hcc359⟩ := Kd.S_get HO_7.out z41 x17_4 p359 (by first | exact q359 | exact of_decide_eq_true aK | (have e_ := (Kd.S_reads' HO_7.out).1; omega))
                 obtain ⟨ve359_1, rfl, ge359_1⟩ := k41_openM hMe359
                 have hv359_1 := hcc359 1 _ rfl
                 rw [add_field _ _ 1 (by omega)] at hv359_1
                 replace hv359_1 := Option.some.inj (hv359_1.symm.trans hx359_1)
                 rw [hv359_1] at ge359_1
                 have HL359_1 := Aside0.mk (show Kd.R (Kd.int .i64) 3 _ _ _ _ ((rd_T41 t333 x17_4).f1) from ge359_1)
                 clear hv359_1 ge359_1 hcc359 hce359
                 have HR359_1 := Aside0.mk hi359_1
                 have HC359_1 := Aside0.mk hl359_1
                 clear hi359_1 hl359_1
                 replace p359 := eq_true p359
                 replace q359 := eq_true q359
                 go_wp2_with (first | ((with_reducible refine gate_callee (f := 19) rfl ?_); refine goesL_ (some 109) rfl rfl Tryd.func19 (by kernel_rfl) rfl #[.slice A0 l0.length c0, .slice (some ad359) t333.length co28, .slice A359_1 ((rd_T41 t333 x17_4).f1).length c359_1] rfl mA ?_; (with_reducible refine (bind_Apply.calls (hG := gK) k4 _ _ l0 _ _ t333 _ _ ((rd_T41 t333 x17_4).f1) t360 t361 _ ?side1 ?side2 ?side3 ?side4 ?side5 ?side6 A45.out).mono ?_); (case side1 => exact cK (Kd.C_below HR0.out HB.out)); (case side2 => exact HC0.out); (case side3 => exact cK ((Kd.S_reads' HO_7.out).2.2)); (case side4 => exact (Kd.S_reads' HO_7.out).2.1); (case side5 => repeat (first | exact (by repeat (first | (with_reducible exact HR359_1.out) | (with_reducible refine Kd.C_alloc ?_ _) | (with_reducible refine Kd.C_drewN ?_ _) | (with_reducible refine Kd.C_drew ?_) | exact HR359_1.out)) | (with_reducible refine Kd.C_alloc ?_ _) | (with_reducible refine Kd.C_drewN ?_ _) | (with_reducible refine Kd.C_drew ?_))); (case side6 => exact HC359_1.out); rintro e w50 ⟨v362, rfl, ho0, hb⟩; refine ⟨_, rfl, ?_⟩; have n0_ := Aside0.mk (Kd.S_elder' (by (with_reducible repeat (first | apply Kd.S_alloc | apply Kd.S_drewN | apply Kd.S_drew)); exact HO_7.out) (Kd.R_base ho0) hb); have n1_ := Aside0.mk (Kd.R_elder' (rK HL359_1) (Kd.R_base ho0) hb); have n2_ := Aside0.mk (Kd.R_lower (Kd.R_new' ho0 (Kd.R_lt (rK HL359_1))) (below_size bB)); have n3_ := Aside0.mk (Kd.C_below (by repeat (first | (with_reducible exact HR359_1.out) | (with_reducible refine Kd.C_alloc ?_ _) | (with_reducible refine Kd.C_drewN ?_ _) | (with_reducible refine Kd.C_drew ?_) | exact HR359_1.out)) hb); have n4_ := Aside0.mk (below_step bB hb); clear HO_7; clear HL359_1; clear HR359_1; clear HB; have HO_7 := n0_; have HL359_1 := n1_; have HO363 := n2_; have HR359_1 := n3_; have HB := n4_; clear n0_ n1_ n2_ n3_ n4_; (try clear hb); (try clear hb2); (try clear hk); (try clear hi); (try clear ho0)) | ((with_reducible refine gate_callee (f := 13) rfl ?_); refine goesL_ (some 113) rfl rfl Tryd.func13 (by kernel_rfl) rfl #[.int .i64 t361] rfl mA ?_; (with_reducible refine (quaerelaw0_Num.calls t361 t364 _ A46.out).mono ?_); rintro e w' ⟨rfl, ⟨nd, rfl⟩⟩; refine ⟨_, rfl, ?_⟩; have p365 : 0 ≤ (x17_4 : Int) := of_decide_eq_true aK; have q365 : x17_4 < (t333.length : Int) := of_decide_eq_true aK; obtain ⟨ad365, A365_1, c365_1, e365, hx365_0, hx365_1, hl365_1, hi365_1⟩ := at_T41 (Kd.S_reads' HO_7.out).2.2 x17_4 p365 q365; obtain rfl : ad359 = ad365 := (by injection e365); obtain ⟨ce365, hce365, hMe365, hcc365⟩ := Kd.S_get HO_7.out z41 x17_4 p365 (by first | exact q365 | exact of_decide_eq_true aK | (have e_ := (Kd.S_reads' HO_7.out).1; omega)); obtain ⟨ve365_1, rfl, ge365_1⟩ := k41_openM hMe365; have hv365_1 := hcc365 1 _ rfl; rw [add_field _ _ 1 (by omega)] at hv365_1; replace hv365_1 := Option.some.inj (hv365_1.symm.trans hx365_1); rw [hv365_1] at ge365_1; have HL365_1 := Aside0.mk (show Kd.R (Kd.int .i64) 3 _ _ _ _ ((rd_T41 t333 x17_4).f1) from ge365_1); clear hv365_1 ge365_1; clear hcc365 hce365; have HR365_1 := Aside0.mk hi365_1; have HC365_1 := Aside0.mk hl365_1; clear hi365_1 hl365_1; replace p365 := eq_true p365; replace q365 := eq_true q365; obtain ⟨Ao51, co51, eo51⟩ := Kd.R_slice HO363.out; subst eo51) | (go_at_call 18; (with_reducible refine (quaerelaw0_SameInts.calls k4 _ _ t360 _ _ ((rd_T41 t333 x17_4).f1) true _ ?side1 ?side2 ?side3 ?side4 A48.out).mono ?_); (case side1 => exact cK ((Kd.R_reads' HO363.out).2.2)); (case side2 => exact (Kd.R_reads' HO363.out).2.1); (case side3 => repeat (first | exact (by repeat (first | (with_reducible exact HR365_1.out) | (with_reducible refine Kd.C_alloc ?_ _) | (with_reducible refine Kd.C_drewN ?_ _) | (with_reducible refine Kd.C_drew ?_) | exact HR365_1.out)) | (with_reducible refine Kd.C_alloc ?_ _) | (with_reducible refine Kd.C_drewN ?_ _) | (with_reducible refine Kd.C_drew ?_))); (case side4 => exact HC365_1.out); rintro e w' ⟨rfl, ⟨nd, rfl⟩⟩))
                 go_roundg k4
                 case measure => have := HJ7.out; have := HJ19.out; have := HJ26.out; have := HK4.out; omega
                 case rel => exact ⟨(wrap64 (x17_4 + 1)), sK, H', ⟨by have := HJ7.out; have := HJ19.out; have := HJ26.out; have := HK4.out; omega⟩, ⟨by (with_reducible repeat (first | apply Kd.S_alloc | apply Kd.S_drewN | apply Kd.S_drew)); exact Kd.S_mono HO_7.out (fun _ hk => trivial)⟩, ⟨bB⟩⟩
                ·replace c49 := Bool.eq_false_iff.mpr c49
                 subst c49
                 have H1 : (some false) = some r := by rw [if_neg (show ¬ (false = true) by decide)] at H; exact H
                 clear H
                 have H := H1
                 clear H1
                 obtain rfl := Option.some.inj H
                 have p359 : 0 ≤ (x17_4 : Int) := of_decide_eq_true aK
                 have q359 : x17_4 < (t333.length : Int) := of_decide_eq_true aK
                 obtain ⟨ad359, A359_1, c359_1, e359, hx359_0, hx359_1, hl359_1, hi359_1⟩ := at_T41 (Kd.S_reads' HO_7.out).2.2 x17_4 p359 q359
                 cases e359
                 obtain ⟨ce359, hce359, hMe359, hcc359⟩ := Kd.S_get HO_7.out z41 x17_4 p359 (by first | exact q359 | exact of_decide_eq_true aK | (have e_ := (Kd.S_reads' HO_7.out).1; omega))
                 obtain ⟨ve359_1, rfl, ge359_1⟩ := k41_openM hMe359
                 have hv359_1 := hcc359 1 _ rfl
                 rw [add_field _ _ 1 (by omega)] at hv359_1
                 replace hv359_1 := Option.some.inj (hv359_1.symm.trans hx359_1)
                 rw [hv359_1] at ge359_1
                 have HL359_1 := Aside0.mk (show Kd.R (Kd.int .i64) 3 _ _ _ _ ((rd_T41 t333 x17_4).f1) from ge359_1)
                 clear hv359_1 ge359_1 hcc359 hce359
                 have HR359_1 := Aside0.mk hi359_1
                 have HC359_1 := Aside0.mk hl359_1
                 clear hi359_1 hl359_1
                 replace p359 := eq_true p359
                 replace q359 := eq_true q359
                 go_wp2_with (first | ((with_reducible refine gate_callee (f := 19) rfl ?_); refine goesL_ (some 109) rfl rfl Tryd.func19 (by kernel_rfl) rfl #[.slice A0 l0.length c0, .slice (some ad359) t333.length co28, .slice A359_1 ((rd_T41 t333 x17_4).f1).length c359_1] rfl mA ?_; (with_reducible refine (bind_Apply.calls (hG := gK) k4 _ _ l0 _ _ t333 _ _ ((rd_T41 t333 x17_4).f1) t360 t361 _ ?side1 ?side2 ?side3 ?side4 ?side5 ?side6 A45.out).mono ?_); (case side1 => exact cK (Kd.C_below HR0.out HB.out)); (case side2 => exact HC0.out); (case side3 => exact cK ((Kd.S_reads' HO_7.out).2.2)); (case side4 => exact (Kd.S_reads' HO_7.out).2.1); (case side5 => repeat (first | exact (by repeat (first | (with_reducible exact HR359_1.out) | (with_reducible refine Kd.C_alloc ?_ _) | (with_reducible refine Kd.C_drewN ?_ _) | (with_reducible refine Kd.C_drew ?_) | exact HR359_1.out)) | (with_reducible refine Kd.C_alloc ?_ _) | (with_reducible refine Kd.C_drewN ?_ _) | (with_reducible refine Kd.C_drew ?_))); (case side6 => exact HC359_1.out); rintro e w52 ⟨v362, rfl, ho0, hb⟩; refine ⟨_, rfl, ?_⟩; have n0_ := Aside0.mk (Kd.S_elder' (by (with_reducible repeat (first | apply Kd.S_alloc | apply Kd.S_drewN | apply Kd.S_drew)); exact HO_7.out) (Kd.R_base ho0) hb); have n1_ := Aside0.mk (Kd.R_elder' (rK HL359_1) (Kd.R_base ho0) hb); have n2_ := Aside0.mk (Kd.R_lower (Kd.R_new' ho0 (Kd.R_lt (rK HL359_1))) (below_size bB)); have n3_ := Aside0.mk (Kd.C_below (by repeat (first | (with_reducible exact HR359_1.out) | (with_reducible refine Kd.C_alloc ?_ _) | (with_reducible refine Kd.C_drewN ?_ _) | (with_reducible refine Kd.C_drew ?_) | exact HR359_1.out)) hb); have n4_ := Aside0.mk (below_step bB hb); clear HO_7; clear HL359_1; clear HR359_1; clear HB; have HO_7 := n0_; have HL359_1 := n1_; have HO363 := n2_; have HR359_1 := n3_; have HB := n4_; clear n0_ n1_ n2_ n3_ n4_; (try clear hb); (try clear hb2); (try clear hk); (try clear hi); (try clear ho0)) | ((with_reducible refine gate_callee (f := 13) rfl ?_); refine goesL_ (some 113) rfl rfl Tryd.func13 (by kernel_rfl) rfl #[.int .i64 t361] rfl mA ?_; (with_reducible refine (quaerelaw0_Num.calls t361 t364 _ A46.out).mono ?_); rintro e w' ⟨rfl, ⟨nd, rfl⟩⟩; refine ⟨_, rfl, ?_⟩; have p365 : 0 ≤ (x17_4 : Int) := of_decide_eq_true aK; have q365 : x17_4 < (t333.length : Int) := of_decide_eq_true aK; obtain ⟨ad365, A365_1, c365_1, e365, hx365_0, hx365_1, hl365_1, hi365_1⟩ := at_T41 (Kd.S_reads' HO_7.out).2.2 x17_4 p365 q365; obtain rfl : ad359 = ad365 := (by injection e365); obtain ⟨ce365, hce365, hMe365, hcc365⟩ := Kd.S_get HO_7.out z41 x17_4 p365 (by first | exact q365 | exact of_decide_eq_true aK | (have e_ := (Kd.S_reads' HO_7.out).1; omega)); obtain ⟨ve365_1, rfl, ge365_1⟩ := k41_openM hMe365; have hv365_1 := hcc365 1 _ rfl; rw [add_field _ _ 1 (by omega)] at hv365_1; replace hv365_1 := Option.some.inj (hv365_1.symm.trans hx365_1); rw [hv365_1] at ge365_1; have HL365_1 := Aside0.mk (show Kd.R (Kd.int .i64) 3 _ _ _ _ ((rd_T41 t333 x17_4).f1) from ge365_1); clear hv365_1 ge365_1; clear hcc365 hce365; have HR365_1 := Aside0.mk hi365_1; have HC365_1 := Aside0.mk hl365_1; clear hi365_1 hl365_1; replace p365 := eq_true p365; replace q365 := eq_true q365; obtain ⟨Ao53, co53, eo53⟩ := Kd.R_slice HO363.out; subst eo53) | (go_at_call 18; (with_reducible refine (quaerelaw0_SameInts.calls k4 _ _ t360 _ _ ((rd_T41 t333 x17_4).f1) false _ ?side1 ?side2 ?side3 ?side4 A48.out).mono ?_); (case side1 => exact cK ((Kd.R_reads' HO363.out).2.2)); (case side2 => exact (Kd.R_reads' HO363.out).2.1); (case side3 => repeat (first | exact (by repeat (first | (with_reducible exact HR365_1.out) | (with_reducible refine Kd.C_alloc ?_ _) | (with_reducible refine Kd.C_drewN ?_ _) | (with_reducible refine Kd.C_drew ?_) | exact HR365_1.out)) | (with_reducible refine Kd.C_alloc ?_ _) | (with_reducible refine Kd.C_drewN ?_ _) | (with_reducible refine Kd.C_drew ?_))); (case side4 => exact HC365_1.out); rintro e w' ⟨rfl, ⟨nd, rfl⟩⟩))
                 go_ret
                 exact ⟨eK, bB⟩
               ·rw [if_neg c47] at H
                have c47b0 : (t364 == 0) = false := beq_eq_false_iff_ne.mpr c47
                have c47b1 : (t364 != 0) = true := bne_iff_ne.mpr c47
                obtain rfl := Option.some.inj H
                have p359 : 0 ≤ (x17_4 : Int) := of_decide_eq_true aK
                have q359 : x17_4 < (t333.length : Int) := of_decide_eq_true aK
                obtain ⟨ad359, A359_1, c359_1, e359, hx359_0, hx359_1, hl359_1, hi359_1⟩ := at_T41 (Kd.S_reads' HO_7.out).2.2 x17_4 p359 q359
                cases e359
                obtain ⟨ce359, hce359, hMe359, hcc359⟩ := Kd.S_get HO_7.out z41 x17_4 p359 (by first | exact q359 | exact of_decide_eq_true aK | (have e_ := (Kd.S_reads' HO_7.out).1; omega))
                obtain ⟨ve359_1, rfl, ge359_1⟩ := k41_openM hMe359
                have hv359_1 := hcc359 1 _ rfl
                rw [add_field _ _ 1 (by omega)] at hv359_1
                replace hv359_1 := Option.some.inj (hv359_1.symm.trans hx359_1)
                rw [hv359_1] at ge359_1
                have HL359_1 := Aside0.mk (show Kd.R (Kd.int .i64) 3 _ _ _ _ ((rd_T41 t333 x17_4).f1) from ge359_1)
                clear hv359_1 ge359_1 hcc359 hce359
                have HR359_1 := Aside0.mk hi359_1
                have HC359_1 := Aside0.mk hl359_1
                clear hi359_1 hl359_1
                replace p359 := eq_true p359
                replace q359 := eq_true q359
                go_wp2_with (first | ((with_reducible refine gate_callee (f := 19) rfl ?_); refine goesL_ (some 109) rfl rfl Tryd.func19 (by kernel_rfl) rfl #[.slice A0 l0.length c0, .slice (some ad359) t333.length co28, .slice A359_1 ((rd_T41 t333 x17_4).f1).length c359_1] rfl mA ?_; (with_reducible refine (bind_Apply.calls (hG := gK) k4 _ _ l0 _ _ t333 _ _ ((rd_T41 t333 x17_4).f1) t360 t361 _ ?side1 ?side2 ?side3 ?side4 ?side5 ?side6 A45.out).mono ?_); (case side1 => exact cK (Kd.C_below HR0.out HB.out)); (case side2 => exact HC0.out); (case side3 => exact cK ((Kd.S_reads' HO_7.out).2.2)); (case side4 => exact (Kd.S_reads' HO_7.out).2.1); (case side5 => repeat (first | exact (by repeat (first | (with_reducible exact HR359_1.out) | (with_reducible refine Kd.C_alloc ?_ _) | (with_reducible refine Kd.C_drewN ?_ _) | (with_reducible refine Kd.C_drew ?_) | exact HR359_1.out)) | (with_reducible refine Kd.C_alloc ?_ _) | (with_reducible refine Kd.C_drewN ?_ _) | (with_reducible refine Kd.C_drew ?_))); (case side6 => exact HC359_1.out); rintro e w54 ⟨v362, rfl, ho0, hb⟩; refine ⟨_, rfl, ?_⟩; have n0_ := Aside0.mk (Kd.S_elder' (by (with_reducible repeat (first | apply Kd.S_alloc | apply Kd.S_drewN | apply Kd.S_drew)); exact HO_7.out) (Kd.R_base ho0) hb); have n1_ := Aside0.mk (Kd.R_elder' (rK HL359_1) (Kd.R_base ho0) hb); have n2_ := Aside0.mk (Kd.R_lower (Kd.R_new' ho0 (Kd.R_lt (rK HL359_1))) (below_size bB)); have n3_ := Aside0.mk (Kd.C_below (by repeat (first | (with_reducible exact HR359_1.out) | (with_reducible refine Kd.C_alloc ?_ _) | (with_reducible refine Kd.C_drewN ?_ _) | (with_reducible refine Kd.C_drew ?_) | exact HR359_1.out)) hb); have n4_ := Aside0.mk (below_step bB hb); clear HO_7; clear HL359_1; clear HR359_1; clear HB; have HO_7 := n0_; have HL359_1 := n1_; have HO363 := n2_; have HR359_1 := n3_; have HB := n4_; clear n0_ n1_ n2_ n3_ n4_; (try clear hb); (try clear hb2); (try clear hk); (try clear hi); (try clear ho0)) | ((with_reducible refine gate_callee (f := 13) rfl ?_); refine goesL_ (some 113) rfl rfl Tryd.func13 (by kernel_rfl) rfl #[.int .i64 t361] rfl mA ?_; (with_reducible refine (quaerelaw0_Num.calls t361 t364 _ A46.out).mono ?_); rintro e w' ⟨rfl, ⟨nd, rfl⟩⟩; refine ⟨_, rfl, ?_⟩))
                go_ret
                exact ⟨eK, bB⟩
              ·rw [if_neg c44] at H
               exact absurd H (by simp)
             ·rw [if_neg c43] at H
              have c43b0 : decide (x17_4 < (t333.length : Int)) = false := decide_eq_false c43
              clear c43
              obtain rfl := Option.some.inj H
              go_wp2
              go_ret
              exact ⟨eK, bB⟩
 ·replace c5 := Bool.eq_false_iff.mpr c5
  subst c5
  have H1 : (some false) = some r := by rw [if_neg (show ¬ (false = true) by decide)] at H; exact H
  clear H
  have H := H1
  clear H1
  obtain rfl := Option.some.inj H
  go_enter Tryd.func6, Tryd.ntmps6
  go_wp2_with (first | ((with_reducible refine gate_callee (f := 16) rfl ?_); refine goesL_ (some 20) rfl rfl Tryd.func16 (by kernel_rfl) rfl #[] rfl mA ?_; (with_reducible refine (quaerelaw4_awake.calls (hG := gK) k  false _ A4.out).mono ?_); rintro e w55 ⟨rfl, hb⟩; refine ⟨_, rfl, ?_⟩; have n0_ := Aside0.mk (below_step bB hb); clear HB; have HB := n0_; clear n0_; (try clear hb); (try clear hb2); (try clear hk); (try clear hi)))
  go_ret
  exact ⟨eK, bB⟩

end Go.Proofs.YtaegdhpcnpojnaaDoor.PU
