-- written by a program of this session's (wip/tools/pp.py), after the kit's print
import Derived.Test.YtaegdhpcnpojnaaDoorPUx0
import Derived.Test.YtaegdhpcnpojnaaDoorPUx7
import Derived.Test.YtaegdhpcnpojnaaDoorPUx13
namespace Go.Proofs.YtaegdhpcnpojnaaDoor.PU
open Go.RowKit Go.Proofs.YtaegdhpcnpojnaaDoorW.PrintWords Go.Proofs.YtaegdhpcnpojnaaDoorW.PrintLast Go.Proofs.YtaegdhpcnpojnaaDoorW.PrintMore
attribute [local go_sem] jump_ret max2_int min2_int max_two min_two max_three min_three max_four min_four   -- for this text's walks alone
set_option linter.unusedVariables false
set_option linter.unusedSimpArgs false

/-! ### quaereref1_Unify: function 11 -/
noncomputable def quaereref1_Unify.j0 : Nat → List (S66) → List Int → List Int → Bool → Option ((List (S41)) × Bool × Int)
 | 0, _, _, _, _ => none
 | k + 1, x0, x1, x2, x26 => if x26 = true then (some (([] : List (S41)), false, 400)) else ((quaereref1_Together.f x0 x1 x2).bind fun bt214 => (if bt214.2.2 = true then (some (bt214.1, bt214.2.1, 0)) else (some (([] : List (S41)), false, 401))))
noncomputable def quaereref1_Unify.f (k : Nat) (l0 : List (S66)) (l1 : List Int) (l2 : List Int) : Option ((List (S41)) × Bool × Int) := (quaereref1_SignMay.f k l0).bind fun t211 => (if t211 = true then ((quaereref1_Terms.f k l0 l1).bind fun t212 => (if t212 < 0 then (quaereref1_Unify.j0 k l0 l1 l2 true) else ((quaereref1_Terms.f k l0 l2).bind fun t213 => (quaereref1_Unify.j0 k l0 l1 l2 (decide (t213 < 0)))))) else (quaereref1_Unify.j0 k l0 l1 l2 true))
theorem quaereref1_Unify.mono_l : ∀ k, (∀ y0 y1 y2 y3, LeO (quaereref1_Unify.j0 k y0 y1 y2 y3) (quaereref1_Unify.j0 (k + 1) y0 y1 y2 y3))
 | 0 => fun _ _ _ _ r h => by simp [quaereref1_Unify.j0] at h
 | k + 1 => by
  have ih0 := quaereref1_Unify.mono_l k
  ·intro y0 y1 y2 y3
   unfold quaereref1_Unify.j0
   repeat' first
   | (with_reducible exact ih0 _ _ _ _)
   | (with_reducible exact quaereref1_SignMay.mono _ _)
   | (with_reducible exact quaereref1_Terms.mono _ _ _)
   | (with_reducible exact LeO.refl _)
   | (with_reducible exact LeO.none _)
   | (with_reducible refine LeO.ite ?_ ?_)
   | (with_reducible refine LeO.bind ?_ (fun _ => ?_))
   | exact ih0 _ _ _ _
   | exact quaereref1_SignMay.mono _ _
   | exact quaereref1_Terms.mono _ _ _
   | exact LeO.none _
   | refine LeO.ite ?_ ?_
   | refine LeO.bind ?_ (fun _ => ?_)
theorem quaereref1_Unify.mono : ∀ a0 a1 a2 k, LeO (quaereref1_Unify.f k a0 a1 a2) (quaereref1_Unify.f (k + 1) a0 a1 a2) := by
 intro a0 a1 a2 k
 have ih0 := quaereref1_Unify.mono_l k
 unfold quaereref1_Unify.f
 repeat' first
   | (with_reducible exact ih0 _ _ _ _)
   | (with_reducible exact quaereref1_SignMay.mono _ _)
   | (with_reducible exact quaereref1_Terms.mono _ _ _)
   | (with_reducible exact LeO.refl _)
   | (with_reducible exact LeO.none _)
   | (with_reducible refine LeO.ite ?_ ?_)
   | (with_reducible refine LeO.bind ?_ (fun _ => ?_))
   | exact ih0 _ _ _ _
   | exact quaereref1_SignMay.mono _ _
   | exact quaereref1_Terms.mono _ _ _
   | exact LeO.none _
   | refine LeO.ite ?_ ?_
   | refine LeO.bind ?_ (fun _ => ?_)
set_option maxHeartbeats 8000000 in
set_option maxRecDepth 100000 in
theorem quaereref1_Unify.calls (k : Nat) (A0 : Option Addr) (c0 : Nat) (l0 : List (S66)) (A1 : Option Addr) (c1 : Nat) (l1 : List Int) (A2 : Option Addr) (c2 : Nat) (l2 : List Int) (r1 : List (S41)) (r2 : Bool) (r3 : Int) (w : World) (hr0 : Kd.C k66 w A0 l0.length l0) (hc0 : l0.length ≤ c0) (hr1 : Kd.C (Kd.int .i64) w A1 l1.length l1) (hc1 : l1.length ≤ c1) (hr2 : Kd.C (Kd.int .i64) w A2 l2.length l2) (hc2 : l2.length ≤ c2) (h : quaereref1_Unify.f k l0 l1 l2 = some (r1, r2, r3)) :
  Calls Tryd.prog 11 #[.slice A0 l0.length c0, .slice A1 l1.length c1, .slice A2 l2.length c2] w fun e w' => ∃ v0_ : Value, e = .returned (.tuple #[v0_, .bool r2, .int .i64 r3]) ∧ Kd.S k41 41 w' w.heap.size (fun _ => True) v0_ r1 ∧ Below w.heap.size w w' := by
 have HR0 := Aside0.mk hr0
 have HC0 := Aside0.mk hc0
 clear hr0 hc0
 have HR1 := Aside0.mk hr1
 have HC1 := Aside0.mk hc1
 clear hr1 hc1
 have HR2 := Aside0.mk hr2
 have HC2 := Aside0.mk hc2
 clear hr2 hc2
 have HB := Aside0.mk (Below.refl w.heap.size w)
 have H : ((quaereref1_SignMay.f k l0).bind fun t211 => (if t211 = true then ((quaereref1_Terms.f k l0 l1).bind fun t212 => (if t212 < 0 then (quaereref1_Unify.j0 k l0 l1 l2 true) else ((quaereref1_Terms.f k l0 l2).bind fun t213 => (quaereref1_Unify.j0 k l0 l1 l2 (decide (t213 < 0)))))) else (quaereref1_Unify.j0 k l0 l1 l2 true))) = some (r1, r2, r3) := h
 clear h
 have HC4 := Aside0.mk H
 clear H
 go_enter Tryd.func11, Tryd.ntmps11
 go_upto_region 1 with (fail)
 go_cut [26] (fun v26 wc => ∃ (kq : Nat) (x26_3 : Bool), v26 = .bool x26_3 ∧ Aside0 (quaereref1_Unify.j0 kq l0 l1 l2 x26_3 = some (r1, r2, r3)) ∧ Aside0 (kq ≤ k) ∧ Aside0 (Below w.heap.size w wc))
 case first =>
  have H := HC4.out
  clear HC4
  replace H := Option.bind_eq_some_iff.mp H
  obtain ⟨t211, A50, H⟩ := H
  replace H : (if t211 = true then ((quaereref1_Terms.f k l0 l1).bind fun t212 => (if t212 < 0 then (quaereref1_Unify.j0 k l0 l1 l2 true) else ((quaereref1_Terms.f k l0 l2).bind fun t213 => (quaereref1_Unify.j0 k l0 l1 l2 (decide (t213 < 0)))))) else (quaereref1_Unify.j0 k l0 l1 l2 true)) = some (r1, r2, r3) := H
  have A5 := Aside0.mk A50
  clear A50
  by_cases c6 : t211 = true
  ·subst c6
   have H1 : ((quaereref1_Terms.f k l0 l1).bind fun t212 => (if t212 < 0 then (quaereref1_Unify.j0 k l0 l1 l2 true) else ((quaereref1_Terms.f k l0 l2).bind fun t213 => (quaereref1_Unify.j0 k l0 l1 l2 (decide (t213 < 0)))))) = some (r1, r2, r3) := by rw [if_pos rfl] at H; exact H
   clear H
   have H := H1
   clear H1
   replace H := Option.bind_eq_some_iff.mp H
   obtain ⟨t212, A70, H⟩ := H
   replace H : (if t212 < 0 then (quaereref1_Unify.j0 k l0 l1 l2 true) else ((quaereref1_Terms.f k l0 l2).bind fun t213 => (quaereref1_Unify.j0 k l0 l1 l2 (decide (t213 < 0))))) = some (r1, r2, r3) := H
   have A7 := Aside0.mk A70
   clear A70
   by_cases c8 : t212 < 0
   ·rw [if_pos c8] at H
    have c8b0 : decide (t212 < 0) = true := decide_eq_true c8
    clear c8
    (first | rw [c8b0] | (simp only [i64_w, i32_w]; rw [c8b0]) | skip)
    have H' := Aside0.mk H
    clear H
    go_wp2_with (first | ((with_reducible refine gate_callee (f := 27) rfl ?_); refine goesL_ (some 13) rfl rfl Tryd.func27 (by kernel_rfl) rfl #[.slice A0 l0.length c0] rfl mA ?_; (with_reducible refine (quaereref1_SignMay.calls k _ _ l0 true _ ?side1 ?side2 A5.out).mono ?_); (case side1 => exact cK (Kd.C_below HR0.out HB.out)); (case side2 => exact HC0.out); rintro e w9 ⟨rfl, hb⟩; refine ⟨_, rfl, ?_⟩; have n0_ := Aside0.mk (below_step bB hb); clear HB; have HB := n0_; clear n0_; (try clear hb); (try clear hb2); (try clear hk); (try clear hi)) | (go_at_call 28; (with_reducible refine (quaereref1_Terms.calls k _ _ l0 _ _ l1 t212 _ ?side1 ?side2 ?side3 ?side4 A7.out).mono ?_); (case side1 => exact cK (Kd.C_below HR0.out HB.out)); (case side2 => exact HC0.out); (case side3 => exact cK (Kd.C_below HR1.out HB.out)); (case side4 => exact HC1.out); rintro e w' ⟨rfl, ⟨nd, rfl⟩⟩))
    go_meet
    case rel => exact ⟨_, (true), sK, H', ⟨by first | omega | exact Nat.le_refl _⟩, ⟨bB⟩⟩
   ·rw [if_neg c8] at H
    have c8b0 : decide (t212 < 0) = false := decide_eq_false c8
    clear c8
    (first | rw [c8b0] | (simp only [i64_w, i32_w]; rw [c8b0]) | skip)
    replace H := Option.bind_eq_some_iff.mp H
    obtain ⟨t213, A100, H⟩ := H
    replace H : (quaereref1_Unify.j0 k l0 l1 l2 (decide (t213 < 0))) = some (r1, r2, r3) := H
    have A10 := Aside0.mk A100
    clear A100
    have H' := Aside0.mk H
    clear H
    go_wp2_with (first | ((with_reducible refine gate_callee (f := 27) rfl ?_); refine goesL_ (some 13) rfl rfl Tryd.func27 (by kernel_rfl) rfl #[.slice A0 l0.length c0] rfl mA ?_; (with_reducible refine (quaereref1_SignMay.calls k _ _ l0 true _ ?side1 ?side2 A5.out).mono ?_); (case side1 => exact cK (Kd.C_below HR0.out HB.out)); (case side2 => exact HC0.out); rintro e w11 ⟨rfl, hb⟩; refine ⟨_, rfl, ?_⟩; have n0_ := Aside0.mk (below_step bB hb); clear HB; have HB := n0_; clear n0_; (try clear hb); (try clear hb2); (try clear hk); (try clear hi)) | (go_at_call 28; (with_reducible refine (quaereref1_Terms.calls k _ _ l0 _ _ l1 t212 _ ?side1 ?side2 ?side3 ?side4 A7.out).mono ?_); (case side1 => exact cK (Kd.C_below HR0.out HB.out)); (case side2 => exact HC0.out); (case side3 => exact cK (Kd.C_below HR1.out HB.out)); (case side4 => exact HC1.out); rintro e w' ⟨rfl, ⟨nd, rfl⟩⟩) | (go_at_call 28; (with_reducible refine (quaereref1_Terms.calls k _ _ l0 _ _ l2 t213 _ ?side1 ?side2 ?side3 ?side4 A10.out).mono ?_); (case side1 => exact cK (Kd.C_below HR0.out bB)); (case side2 => exact HC0.out); (case side3 => exact cK (Kd.C_below HR2.out bB)); (case side4 => exact HC2.out); rintro e w' ⟨rfl, ⟨nd, rfl⟩⟩))
    go_meet
    case rel => exact ⟨_, (decide (t213 < 0)), sK, H', ⟨by first | omega | exact Nat.le_refl _⟩, ⟨bB⟩⟩
  ·replace c6 := Bool.eq_false_iff.mpr c6
   subst c6
   have H1 : (quaereref1_Unify.j0 k l0 l1 l2 true) = some (r1, r2, r3) := by rw [if_neg (show ¬ (false = true) by decide)] at H; exact H
   clear H
   have H := H1
   clear H1
   have H' := Aside0.mk H
   clear H
   go_wp2_with (first | ((with_reducible refine gate_callee (f := 27) rfl ?_); refine goesL_ (some 13) rfl rfl Tryd.func27 (by kernel_rfl) rfl #[.slice A0 l0.length c0] rfl mA ?_; (with_reducible refine (quaereref1_SignMay.calls k _ _ l0 false _ ?side1 ?side2 A5.out).mono ?_); (case side1 => exact cK (Kd.C_below HR0.out HB.out)); (case side2 => exact HC0.out); rintro e w12 ⟨rfl, hb⟩; refine ⟨_, rfl, ?_⟩; have n0_ := Aside0.mk (below_step bB hb); clear HB; have HB := n0_; clear n0_; (try clear hb); (try clear hb2); (try clear hk); (try clear hi)))
   go_meet
   case rel => exact ⟨_, (true), sK, H', ⟨by first | omega | exact Nat.le_refl _⟩, ⟨bB⟩⟩
 case rest =>
  clear HC4
  try clear c1
  try clear c2
  try clear p2
  try clear c6
  try clear c8
  try clear c8b0
  try clear c11
  obtain ⟨kq, x26_3, rfl, HA, HJ3, HB⟩ := hcut
  cases kq with
  | zero => exact absurd HA.out (by simp [quaereref1_Unify.j0])
  | succ kj3 =>
   have H := HA.out
   clear HA
   simp only [quaereref1_Unify.j0] at H
   by_cases c13 : x26_3 = true
   ·subst c13
    have H1 : (some (([] : List (S41)), false, 400)) = some (r1, r2, r3) := by rw [if_pos rfl] at H; exact H
    clear H
    have H := H1
    clear H1
    simp only [Option.some.injEq, Prod.mk.injEq] at H
    obtain ⟨rfl, rfl, rfl⟩ := H
    go_wp2
    go_ret3
    exact ⟨_, eK, by first | exact Kd.S_nil _ _ _ _ _ | exact Kd.N_nil _ _ _ _ _ | exact Kd.V_nil _ _ _ _ _ | exact Kd.Q_nil _ _ _ _ _ | exact Kd.R_nil _ _ _ _ _, bB⟩
   ·replace c13 := Bool.eq_false_iff.mpr c13
    subst c13
    have H1 : ((quaereref1_Together.f l0 l1 l2).bind fun bt214 => (if bt214.2.2 = true then (some (bt214.1, bt214.2.1, 0)) else (some (([] : List (S41)), false, 401)))) = some (r1, r2, r3) := by rw [if_neg (show ¬ (false = true) by decide)] at H; exact H
    clear H
    have H := H1
    clear H1
    replace H := Option.bind_eq_some_iff.mp H
    obtain ⟨⟨t214, t215, t216⟩, A140, H⟩ := H
    replace H : (if t216 = true then (some (t214, t215, 0)) else (some (([] : List (S41)), false, 401))) = some (r1, r2, r3) := H
    have A14 := Aside0.mk A140
    clear A140
    by_cases c15 : t216 = true
    ·subst c15
     have H1 : (some (t214, t215, 0)) = some (r1, r2, r3) := by rw [if_pos rfl] at H; exact H
     clear H
     have H := H1
     clear H1
     simp only [Option.some.injEq, Prod.mk.injEq] at H
     obtain ⟨rfl, rfl, rfl⟩ := H
     go_wp2_with (first | ((with_reducible refine gate_callee (f := 29) rfl ?_); refine goesL_ (some 31) rfl rfl Tryd.func29 (by kernel_rfl) rfl #[.slice A0 l0.length c0, .slice A1 l1.length c1, .slice A2 l2.length c2] rfl mA ?_; (with_reducible refine (quaereref1_Together.calls _ _ l0 _ _ l1 _ _ l2 t214 t215 true _ ?side1 ?side2 ?side3 ?side4 ?side5 ?side6 A14.out).mono ?_); (case side1 => exact cK (Kd.C_below HR0.out HB.out)); (case side2 => exact HC0.out); (case side3 => exact cK (Kd.C_below HR1.out HB.out)); (case side4 => exact HC1.out); (case side5 => exact cK (Kd.C_below HR2.out HB.out)); (case side6 => exact HC2.out); rintro e w16 ⟨v217, rfl, ho0, hb⟩; refine ⟨_, rfl, ?_⟩; have n0_ := Aside0.mk (Kd.S_lower ho0 (below_size bB)); have n1_ := Aside0.mk (below_step bB hb); clear HB; have HO218 := n0_; have HB := n1_; clear n0_ n1_; (try clear hb); (try clear hb2); (try clear hk); (try clear hi); (try clear ho0)))
     go_ret3
     exact ⟨_, eK, by (with_reducible repeat (first | apply Kd.S_alloc | apply Kd.S_drewN | apply Kd.S_drew)); exact HO218.out, bB⟩
    ·replace c15 := Bool.eq_false_iff.mpr c15
     subst c15
     have H1 : (some (([] : List (S41)), false, 401)) = some (r1, r2, r3) := by rw [if_neg (show ¬ (false = true) by decide)] at H; exact H
     clear H
     have H := H1
     clear H1
     simp only [Option.some.injEq, Prod.mk.injEq] at H
     obtain ⟨rfl, rfl, rfl⟩ := H
     go_wp2_with (first | ((with_reducible refine gate_callee (f := 29) rfl ?_); refine goesL_ (some 31) rfl rfl Tryd.func29 (by kernel_rfl) rfl #[.slice A0 l0.length c0, .slice A1 l1.length c1, .slice A2 l2.length c2] rfl mA ?_; (with_reducible refine (quaereref1_Together.calls _ _ l0 _ _ l1 _ _ l2 t214 t215 false _ ?side1 ?side2 ?side3 ?side4 ?side5 ?side6 A14.out).mono ?_); (case side1 => exact cK (Kd.C_below HR0.out HB.out)); (case side2 => exact HC0.out); (case side3 => exact cK (Kd.C_below HR1.out HB.out)); (case side4 => exact HC1.out); (case side5 => exact cK (Kd.C_below HR2.out HB.out)); (case side6 => exact HC2.out); rintro e w17 ⟨v217, rfl, ho0, hb⟩; refine ⟨_, rfl, ?_⟩; have n0_ := Aside0.mk (Kd.S_lower ho0 (below_size bB)); have n1_ := Aside0.mk (below_step bB hb); clear HB; have HO218 := n0_; have HB := n1_; clear n0_ n1_; (try clear hb); (try clear hb2); (try clear hk); (try clear hi); (try clear ho0)))
     go_ret3
     exact ⟨_, eK, by first | exact Kd.S_nil _ _ _ _ _ | exact Kd.N_nil _ _ _ _ _ | exact Kd.V_nil _ _ _ _ _ | exact Kd.Q_nil _ _ _ _ _ | exact Kd.R_nil _ _ _ _ _, bB⟩

end Go.Proofs.YtaegdhpcnpojnaaDoor.PU
