-- written by a program of this session's (wip/tools/pp.py), after the kit's print
import Derived.Test.YteffiodbflmfkaaDoorPPx0
import Derived.Test.YteffiodbflmfkaaDoorPPx6
import Derived.Test.YteffiodbflmfkaaDoorPPx8
import Derived.Test.YteffiodbflmfkaaDoorPPx19
import Derived.Test.YteffiodbflmfkaaDoorPPx20
namespace Go.Proofs.YteffiodbflmfkaaDoor.PP
open Go.RowKit Go.Proofs.YteffiodbflmfkaaDoorW.PrintWords Go.Proofs.YteffiodbflmfkaaDoorW.PrintLast Go.Proofs.YteffiodbflmfkaaDoorW.PrintMore
attribute [local go_sem] jump_ret jumpE_ret max2_int min2_int max_two min_two max_three min_three max_four min_four   -- for this text's walks alone
set_option linter.unusedVariables false
set_option linter.unusedSimpArgs false

/-! ### quaerelaw12_PathWays: function 5 -/
mutual
noncomputable def quaerelaw12_PathWays.j0 : Nat → List (S59) → List (List Int) → List Int → List Int → List Int → List Int → Bool → Option (Bool)
 | 0, _, _, _, _, _, _, _ => none
 | k + 1, x0, x1, x2, x7, x9, x11, x74 => if x74 = true then (some false) else (quaerelaw12_PathWays.l0 k x0 x1 x2 x7 x9 x11 0)
noncomputable def quaerelaw12_PathWays.l0 : Nat → List (S59) → List (List Int) → List Int → List Int → List Int → List Int → Int → Option (Bool)
 | 0, _, _, _, _, _, _, _ => none
 | k + 1, x0, x1, x2, x7, x9, x11, x13 => if x13 < (x1.length : Int) then (if 0 ≤ x13 then (if ((rd_L3 x1 x13).length : Int) = 0 then ((quaerelaw12_among.f k x7 x13).bind fun t480 => (if t480 = true then (some false) else ((quaerelaw12_among.f k x9 x13).bind fun t481 => (if t481 = true then (some false) else ((quaerelaw12_among.f k x11 x13).bind fun t482 => (if t482 = true then (some false) else (quaerelaw12_PathWays.l0 k x0 x1 x2 x7 x9 x11 (wrap64 (x13 + 1))))))))) else ((quaerelaw12_among.f k x9 x13).bind fun t483 => (if t483 = true then ((quaerelaw12_among.f k x7 x13).bind fun t484 => (if t484 = true then ((quaerelaw12_among.f k x11 x13).bind fun t485 => (if t485 = true then ((quaerelaw12_among.f k x7 x13).bind fun t486 => (quaerelaw12_PathWays.j2 k x0 x1 x2 x7 x9 x11 x13 (!t486))) else (quaerelaw12_PathWays.j2 k x0 x1 x2 x7 x9 x11 x13 false))) else (quaerelaw12_PathWays.j2 k x0 x1 x2 x7 x9 x11 x13 true))) else ((quaerelaw12_among.f k x11 x13).bind fun t487 => (if t487 = true then ((quaerelaw12_among.f k x7 x13).bind fun t488 => (quaerelaw12_PathWays.j2 k x0 x1 x2 x7 x9 x11 x13 (!t488))) else (quaerelaw12_PathWays.j2 k x0 x1 x2 x7 x9 x11 x13 false)))))) else (none)) else (some true)
noncomputable def quaerelaw12_PathWays.j2 : Nat → List (S59) → List (List Int) → List Int → List Int → List Int → List Int → Int → Bool → Option (Bool)
 | 0, _, _, _, _, _, _, _, _ => none
 | k + 1, x0, x1, x2, x7, x9, x11, x13, x119 => if x119 = true then (some false) else (if 0 ≤ x13 then (if x13 < (x1.length : Int) then ((path_Find.f k x0 (([x2] : List (List Int))) (rd_L3 x1 x13) 2).bind fun bt493 => ((path_Find.f k x0 (([x2] : List (List Int))) (rd_L3 x1 x13) 0).bind fun bt501 => ((quaerelaw0_Num.f bt493.2).bind fun t505 => (if t505 = 0 then ((quaerelaw0_Num.f bt501.2).bind fun t506 => (if t506 = 0 then ((quaerelaw12_among.f k x9 x13).bind fun t507 => (if (((bt493.1.length : Int) == 1) != t507) = true then (some false) else ((quaerelaw12_among.f k x7 x13).bind fun t508 => (if (((bt501.1.length : Int) == 1) != t508) = true then (some false) else (quaerelaw12_PathWays.l0 k x0 x1 x2 x7 x9 x11 (wrap64 (x13 + 1))))))) else (some false))) else (some false))))) else (none)) else (none))
end
noncomputable def quaerelaw12_PathWays.f (k : Nat) (l0 : List (S59)) (l1 : List (List Int)) (l2 : List Int) : Option (Bool) := (quaerelaw12_awake.f k).bind fun t459 => (if t459 = true then ((path_Find.f k l0 l1 l2 0).bind fun bt460 => ((path_Find.f k l0 l1 l2 1).bind fun bt464 => ((path_Find.f k l0 l1 l2 2).bind fun bt468 => ((quaerelaw0_Num.f bt460.2).bind fun t472 => (if t472 = 0 then ((quaerelaw0_Num.f bt464.2).bind fun t477 => (if t477 = 0 then ((quaerelaw0_Num.f bt468.2).bind fun t478 => (quaerelaw12_PathWays.j0 k l0 l1 l2 bt460.1 bt464.1 bt468.1 (t478 != 0))) else (quaerelaw12_PathWays.j0 k l0 l1 l2 bt460.1 bt464.1 bt468.1 true))) else ((quaerelaw0_Num.f bt460.2).bind fun t473 => ((quaerelaw0_Num.f bt464.2).bind fun t474 => (if t473 = t474 then ((quaerelaw0_Num.f bt464.2).bind fun t475 => ((quaerelaw0_Num.f bt468.2).bind fun t476 => (if t475 = t476 then (some ((wrap64 ((wrap64 ((bt460.1.length : Int) + (bt464.1.length : Int))) + (bt468.1.length : Int))) == 0)) else (some false)))) else (some false))))))))) else (some false))
theorem quaerelaw12_PathWays.mono_l : ∀ k, (∀ y0 y1 y2 y3 y4 y5 y6, LeO (quaerelaw12_PathWays.j0 k y0 y1 y2 y3 y4 y5 y6) (quaerelaw12_PathWays.j0 (k + 1) y0 y1 y2 y3 y4 y5 y6)) ∧ (∀ y0 y1 y2 y3 y4 y5 y6, LeO (quaerelaw12_PathWays.l0 k y0 y1 y2 y3 y4 y5 y6) (quaerelaw12_PathWays.l0 (k + 1) y0 y1 y2 y3 y4 y5 y6)) ∧ (∀ y0 y1 y2 y3 y4 y5 y6 y7, LeO (quaerelaw12_PathWays.j2 k y0 y1 y2 y3 y4 y5 y6 y7) (quaerelaw12_PathWays.j2 (k + 1) y0 y1 y2 y3 y4 y5 y6 y7))
 | 0 => ⟨fun _ _ _ _ _ _ _ r h => by simp [quaerelaw12_PathWays.j0] at h, fun _ _ _ _ _ _ _ r h => by simp [quaerelaw12_PathWays.l0] at h, fun _ _ _ _ _ _ _ _ r h => by simp [quaerelaw12_PathWays.j2] at h⟩
 | k + 1 => by
  obtain ⟨ih0, ih1, ih2⟩ := quaerelaw12_PathWays.mono_l k
  refine ⟨?_, ?_, ?_⟩
  ·intro y0 y1 y2 y3 y4 y5 y6
   unfold quaerelaw12_PathWays.j0
   repeat' first
   | (with_reducible exact ih0 _ _ _ _ _ _ _)
   | (with_reducible exact ih1 _ _ _ _ _ _ _)
   | (with_reducible exact ih2 _ _ _ _ _ _ _ _)
   | (with_reducible exact path_Find.mono _ _ _ _ _)
   | (with_reducible exact quaerelaw12_among.mono _ _ _)
   | (with_reducible exact quaerelaw12_awake.mono _)
   | (with_reducible exact LeO.refl _)
   | (with_reducible exact LeO.none _)
   | (with_reducible refine LeO.ite ?_ ?_)
   | (with_reducible refine LeO.bind ?_ (fun _ => ?_))
   | exact ih0 _ _ _ _ _ _ _
   | exact ih1 _ _ _ _ _ _ _
   | exact ih2 _ _ _ _ _ _ _ _
   | exact path_Find.mono _ _ _ _ _
   | exact quaerelaw12_among.mono _ _ _
   | exact quaerelaw12_awake.mono _
   | exact LeO.none _
   | refine LeO.ite ?_ ?_
   | refine LeO.bind ?_ (fun _ => ?_)
  ·intro y0 y1 y2 y3 y4 y5 y6
   unfold quaerelaw12_PathWays.l0
   repeat' first
   | (with_reducible exact ih0 _ _ _ _ _ _ _)
   | (with_reducible exact ih1 _ _ _ _ _ _ _)
   | (with_reducible exact ih2 _ _ _ _ _ _ _ _)
   | (with_reducible exact path_Find.mono _ _ _ _ _)
   | (with_reducible exact quaerelaw12_among.mono _ _ _)
   | (with_reducible exact quaerelaw12_awake.mono _)
   | (with_reducible exact LeO.refl _)
   | (with_reducible exact LeO.none _)
   | (with_reducible refine LeO.ite ?_ ?_)
   | (with_reducible refine LeO.bind ?_ (fun _ => ?_))
   | exact ih0 _ _ _ _ _ _ _
   | exact ih1 _ _ _ _ _ _ _
   | exact ih2 _ _ _ _ _ _ _ _
   | exact path_Find.mono _ _ _ _ _
   | exact quaerelaw12_among.mono _ _ _
   | exact quaerelaw12_awake.mono _
   | exact LeO.none _
   | refine LeO.ite ?_ ?_
   | refine LeO.bind ?_ (fun _ => ?_)
  ·intro y0 y1 y2 y3 y4 y5 y6 y7
   unfold quaerelaw12_PathWays.j2
   repeat' first
   | (with_reducible exact ih0 _ _ _ _ _ _ _)
   | (with_reducible exact ih1 _ _ _ _ _ _ _)
   | (with_reducible exact ih2 _ _ _ _ _ _ _ _)
   | (with_reducible exact path_Find.mono _ _ _ _ _)
   | (with_reducible exact quaerelaw12_among.mono _ _ _)
   | (with_reducible exact quaerelaw12_awake.mono _)
   | (with_reducible exact LeO.refl _)
   | (with_reducible exact LeO.none _)
   | (with_reducible refine LeO.ite ?_ ?_)
   | (with_reducible refine LeO.bind ?_ (fun _ => ?_))
   | exact ih0 _ _ _ _ _ _ _
   | exact ih1 _ _ _ _ _ _ _
   | exact ih2 _ _ _ _ _ _ _ _
   | exact path_Find.mono _ _ _ _ _
   | exact quaerelaw12_among.mono _ _ _
   | exact quaerelaw12_awake.mono _
   | exact LeO.none _
   | refine LeO.ite ?_ ?_
   | refine LeO.bind ?_ (fun _ => ?_)
theorem quaerelaw12_PathWays.mono : ∀ a0 a1 a2 k, LeO (quaerelaw12_PathWays.f k a0 a1 a2) (quaerelaw12_PathWays.f (k + 1) a0 a1 a2) := by
 intro a0 a1 a2 k
 obtain ⟨ih0, ih1, ih2⟩ := quaerelaw12_PathWays.mono_l k
 unfold quaerelaw12_PathWays.f
 repeat' first
   | (with_reducible exact ih0 _ _ _ _ _ _ _)
   | (with_reducible exact ih1 _ _ _ _ _ _ _)
   | (with_reducible exact ih2 _ _ _ _ _ _ _ _)
   | (with_reducible exact path_Find.mono _ _ _ _ _)
   | (with_reducible exact quaerelaw12_among.mono _ _ _)
   | (with_reducible exact quaerelaw12_awake.mono _)
   | (with_reducible exact LeO.refl _)
   | (with_reducible exact LeO.none _)
   | (with_reducible refine LeO.ite ?_ ?_)
   | (with_reducible refine LeO.bind ?_ (fun _ => ?_))
   | exact ih0 _ _ _ _ _ _ _
   | exact ih1 _ _ _ _ _ _ _
   | exact ih2 _ _ _ _ _ _ _ _
   | exact path_Find.mono _ _ _ _ _
   | exact quaerelaw12_among.mono _ _ _
   | exact quaerelaw12_awake.mono _
   | exact LeO.none _
   | refine LeO.ite ?_ ?_
   | refine LeO.bind ?_ (fun _ => ?_)
set_option maxHeartbeats 8000000 in
set_option maxRecDepth 100000 in
theorem quaerelaw12_PathWays.calls (k : Nat) (A0 : Option Addr) (c0 : Nat) (l0 : List (S59)) (A1 : Option Addr) (c1 : Nat) (l1 : List (List Int)) (P2_ : Nat → Prop) (A2 : Option Addr) (c2 : Nat) (l2 : List Int) (r : Bool) (w : World) (hr0 : Kd.C k59 w A0 l0.length l0) (hc0 : l0.length ≤ c0) (hr1 : Kd.C (Kd.slice 3 (Kd.int .i64)) w A1 l1.length l1) (hc1 : l1.length ≤ c1) (hs2 : Kd.V (Kd.int .i64) 3 w w.heap.size (fun k_ => P2_ k_) (.slice A2 l2.length c2) l2) (h : quaerelaw12_PathWays.f k l0 l1 l2 = some r) (hG : Glob w) :
  Calls Tryd.prog 5 #[.slice A0 l0.length c0, .slice A1 l1.length c1, .slice A2 l2.length c2] w fun e w' => e = .returned (.bool r) ∧ Below w.heap.size w w' := by
 have HR0 := Aside0.mk hr0
 have HC0 := Aside0.mk hc0
 clear hr0 hc0
 have HR1 := Aside0.mk hr1
 have HC1 := Aside0.mk hc1
 clear hr1 hc1
 have HO2 := Aside0.mk (show Kd.V (Kd.int .i64) 3 w w.heap.size (fun k_ => (P2_ k_ ∨ w.heap.size ≤ k_)) (.slice A2 l2.length c2) l2 from Kd.V_mono hs2 (fun k_ hk => .inl hk))
 have HB := Aside0.mk (Below.refl w.heap.size w)
 have H : ((quaerelaw12_awake.f k).bind fun t459 => (if t459 = true then ((path_Find.f k l0 l1 l2 0).bind fun bt460 => ((path_Find.f k l0 l1 l2 1).bind fun bt464 => ((path_Find.f k l0 l1 l2 2).bind fun bt468 => ((quaerelaw0_Num.f bt460.2).bind fun t472 => (if t472 = 0 then ((quaerelaw0_Num.f bt464.2).bind fun t477 => (if t477 = 0 then ((quaerelaw0_Num.f bt468.2).bind fun t478 => (quaerelaw12_PathWays.j0 k l0 l1 l2 bt460.1 bt464.1 bt468.1 (t478 != 0))) else (quaerelaw12_PathWays.j0 k l0 l1 l2 bt460.1 bt464.1 bt468.1 true))) else ((quaerelaw0_Num.f bt460.2).bind fun t473 => ((quaerelaw0_Num.f bt464.2).bind fun t474 => (if t473 = t474 then ((quaerelaw0_Num.f bt464.2).bind fun t475 => ((quaerelaw0_Num.f bt468.2).bind fun t476 => (if t475 = t476 then (some ((wrap64 ((wrap64 ((bt460.1.length : Int) + (bt464.1.length : Int))) + (bt468.1.length : Int))) == 0)) else (some false)))) else (some false))))))))) else (some false))) = some r := h
 clear h
 replace H := Option.bind_eq_some_iff.mp H
 obtain ⟨t459, A40, H⟩ := H
 replace H : (if t459 = true then ((path_Find.f k l0 l1 l2 0).bind fun bt460 => ((path_Find.f k l0 l1 l2 1).bind fun bt464 => ((path_Find.f k l0 l1 l2 2).bind fun bt468 => ((quaerelaw0_Num.f bt460.2).bind fun t472 => (if t472 = 0 then ((quaerelaw0_Num.f bt464.2).bind fun t477 => (if t477 = 0 then ((quaerelaw0_Num.f bt468.2).bind fun t478 => (quaerelaw12_PathWays.j0 k l0 l1 l2 bt460.1 bt464.1 bt468.1 (t478 != 0))) else (quaerelaw12_PathWays.j0 k l0 l1 l2 bt460.1 bt464.1 bt468.1 true))) else ((quaerelaw0_Num.f bt460.2).bind fun t473 => ((quaerelaw0_Num.f bt464.2).bind fun t474 => (if t473 = t474 then ((quaerelaw0_Num.f bt464.2).bind fun t475 => ((quaerelaw0_Num.f bt468.2).bind fun t476 => (if t475 = t476 then (some ((wrap64 ((wrap64 ((bt460.1.length : Int) + (bt464.1.length : Int))) + (bt468.1.length : Int))) == 0)) else (some false)))) else (some false))))))))) else (some false)) = some r := H
 have A4 := Aside0.mk A40
 clear A40
 by_cases c5 : t459 = true
 ·subst c5
  have H1 : ((path_Find.f k l0 l1 l2 0).bind fun bt460 => ((path_Find.f k l0 l1 l2 1).bind fun bt464 => ((path_Find.f k l0 l1 l2 2).bind fun bt468 => ((quaerelaw0_Num.f bt460.2).bind fun t472 => (if t472 = 0 then ((quaerelaw0_Num.f bt464.2).bind fun t477 => (if t477 = 0 then ((quaerelaw0_Num.f bt468.2).bind fun t478 => (quaerelaw12_PathWays.j0 k l0 l1 l2 bt460.1 bt464.1 bt468.1 (t478 != 0))) else (quaerelaw12_PathWays.j0 k l0 l1 l2 bt460.1 bt464.1 bt468.1 true))) else ((quaerelaw0_Num.f bt460.2).bind fun t473 => ((quaerelaw0_Num.f bt464.2).bind fun t474 => (if t473 = t474 then ((quaerelaw0_Num.f bt464.2).bind fun t475 => ((quaerelaw0_Num.f bt468.2).bind fun t476 => (if t475 = t476 then (some ((wrap64 ((wrap64 ((bt460.1.length : Int) + (bt464.1.length : Int))) + (bt468.1.length : Int))) == 0)) else (some false)))) else (some false))))))))) = some r := by rw [if_pos rfl] at H; exact H
  clear H
  have H := H1
  clear H1
  replace H := Option.bind_eq_some_iff.mp H
  obtain ⟨⟨t460, t461⟩, A60, H⟩ := H
  replace H : ((path_Find.f k l0 l1 l2 1).bind fun bt464 => ((path_Find.f k l0 l1 l2 2).bind fun bt468 => ((quaerelaw0_Num.f t461).bind fun t472 => (if t472 = 0 then ((quaerelaw0_Num.f bt464.2).bind fun t477 => (if t477 = 0 then ((quaerelaw0_Num.f bt468.2).bind fun t478 => (quaerelaw12_PathWays.j0 k l0 l1 l2 t460 bt464.1 bt468.1 (t478 != 0))) else (quaerelaw12_PathWays.j0 k l0 l1 l2 t460 bt464.1 bt468.1 true))) else ((quaerelaw0_Num.f t461).bind fun t473 => ((quaerelaw0_Num.f bt464.2).bind fun t474 => (if t473 = t474 then ((quaerelaw0_Num.f bt464.2).bind fun t475 => ((quaerelaw0_Num.f bt468.2).bind fun t476 => (if t475 = t476 then (some ((wrap64 ((wrap64 ((t460.length : Int) + (bt464.1.length : Int))) + (bt468.1.length : Int))) == 0)) else (some false)))) else (some false)))))))) = some r := H
  have A6 := Aside0.mk A60
  clear A60
  replace H := Option.bind_eq_some_iff.mp H
  obtain ⟨⟨t464, t465⟩, A70, H⟩ := H
  replace H : ((path_Find.f k l0 l1 l2 2).bind fun bt468 => ((quaerelaw0_Num.f t461).bind fun t472 => (if t472 = 0 then ((quaerelaw0_Num.f t465).bind fun t477 => (if t477 = 0 then ((quaerelaw0_Num.f bt468.2).bind fun t478 => (quaerelaw12_PathWays.j0 k l0 l1 l2 t460 t464 bt468.1 (t478 != 0))) else (quaerelaw12_PathWays.j0 k l0 l1 l2 t460 t464 bt468.1 true))) else ((quaerelaw0_Num.f t461).bind fun t473 => ((quaerelaw0_Num.f t465).bind fun t474 => (if t473 = t474 then ((quaerelaw0_Num.f t465).bind fun t475 => ((quaerelaw0_Num.f bt468.2).bind fun t476 => (if t475 = t476 then (some ((wrap64 ((wrap64 ((t460.length : Int) + (t464.length : Int))) + (bt468.1.length : Int))) == 0)) else (some false)))) else (some false))))))) = some r := H
  have A7 := Aside0.mk A70
  clear A70
  replace H := Option.bind_eq_some_iff.mp H
  obtain ⟨⟨t468, t469⟩, A80, H⟩ := H
  replace H : ((quaerelaw0_Num.f t461).bind fun t472 => (if t472 = 0 then ((quaerelaw0_Num.f t465).bind fun t477 => (if t477 = 0 then ((quaerelaw0_Num.f t469).bind fun t478 => (quaerelaw12_PathWays.j0 k l0 l1 l2 t460 t464 t468 (t478 != 0))) else (quaerelaw12_PathWays.j0 k l0 l1 l2 t460 t464 t468 true))) else ((quaerelaw0_Num.f t461).bind fun t473 => ((quaerelaw0_Num.f t465).bind fun t474 => (if t473 = t474 then ((quaerelaw0_Num.f t465).bind fun t475 => ((quaerelaw0_Num.f t469).bind fun t476 => (if t475 = t476 then (some ((wrap64 ((wrap64 ((t460.length : Int) + (t464.length : Int))) + (t468.length : Int))) == 0)) else (some false)))) else (some false)))))) = some r := H
  have A8 := Aside0.mk A80
  clear A80
  replace H := Option.bind_eq_some_iff.mp H
  obtain ⟨t472, A90, H⟩ := H
  replace H : (if t472 = 0 then ((quaerelaw0_Num.f t465).bind fun t477 => (if t477 = 0 then ((quaerelaw0_Num.f t469).bind fun t478 => (quaerelaw12_PathWays.j0 k l0 l1 l2 t460 t464 t468 (t478 != 0))) else (quaerelaw12_PathWays.j0 k l0 l1 l2 t460 t464 t468 true))) else ((quaerelaw0_Num.f t461).bind fun t473 => ((quaerelaw0_Num.f t465).bind fun t474 => (if t473 = t474 then ((quaerelaw0_Num.f t465).bind fun t475 => ((quaerelaw0_Num.f t469).bind fun t476 => (if t475 = t476 then (some ((wrap64 ((wrap64 ((t460.length : Int) + (t464.length : Int))) + (t468.length : Int))) == 0)) else (some false)))) else (some false))))) = some r := H
  have A9 := Aside0.mk A90
  clear A90
  by_cases c10 : t472 = 0
  ·rw [if_pos c10] at H
   have c10b0 : (t472 == 0) = true := beq_iff_eq.mpr c10
   have c10b1 : (t472 != 0) = false := bne_eq_false_iff_eq.mpr c10
   clear c10
   have HC11 := Aside0.mk H
   clear H
   go_enter Tryd.func5, Tryd.ntmps5
   go_upto_region 8 with (first | ((with_reducible refine gate_callee (f := 16) rfl ?_); refine goesL_ (some 18) rfl rfl Tryd.func16 (by kernel_rfl) rfl #[] rfl mA ?_; (with_reducible refine (quaerelaw12_awake.calls (hG := gK) k  true _ A4.out).mono ?_); rintro e w12 ⟨rfl, hb⟩; refine ⟨_, rfl, ?_⟩; have n0_ := Aside0.mk (Kd.V_below (by (with_reducible repeat (first | apply Kd.V_alloc | apply Kd.V_drewN | apply Kd.V_drew)); exact HO2.out) hb); have n1_ := Aside0.mk (below_step bB hb); clear HO2; clear HB; have HO2 := n0_; have HB := n1_; clear n0_ n1_; (try clear hb); (try clear hb2); (try clear hk); (try clear hi)) | ((with_reducible refine gate_callee (f := 18) rfl ?_); refine goesL_ (some 24) rfl rfl Tryd.func18 (by kernel_rfl) rfl #[.slice A0 l0.length c0, .slice A1 l1.length c1, .slice A2 l2.length c2, .int .i64 0] rfl mA ?_; (with_reducible refine (path_Find.calls (hG := gK) k _ _ l0 _ _ l1 _ _ l2 0 t460 t461 _ ?side1 ?side2 ?side3 ?side4 ?side5 ?side6 A6.out).mono ?_); (case side1 => exact cK (Kd.C_below HR0.out HB.out)); (case side2 => exact HC0.out); (case side3 => exact cK (Kd.C_below HR1.out HB.out)); (case side4 => exact HC1.out); (case side5 => exact cK ((Kd.V_reads' HO2.out).2.2)); (case side6 => exact (Kd.V_reads' HO2.out).2.1); rintro e w13 ⟨v462, rfl, ho0, hb⟩; refine ⟨_, rfl, ?_⟩; have n0_ := Aside0.mk (Kd.V_elder' (by (with_reducible repeat (first | apply Kd.V_alloc | apply Kd.V_drewN | apply Kd.V_drew)); exact HO2.out) (Kd.R_base ho0) hb); have n1_ := Aside0.mk (Kd.R_lower (Kd.R_newM (M := fun k_ => (w.heap.size ≤ k_)) ho0 (below_size bB) (fun k_ h_ => h_)) (below_size bB)); have n2_ := Aside0.mk (below_step bB hb); clear HO2; clear HB; have HO2 := n0_; have HO463 := n1_; have HB := n2_; clear n0_ n1_ n2_; (try clear hb); (try clear hb2); (try clear hk); (try clear hi); (try clear ho0)) | ((with_reducible refine gate_callee (f := 18) rfl ?_); refine goesL_ (some 31) rfl rfl Tryd.func18 (by kernel_rfl) rfl #[.slice A0 l0.length c0, .slice A1 l1.length c1, .slice A2 l2.length c2, .int .i64 1] rfl mA ?_; (with_reducible refine (path_Find.calls (hG := gK) k _ _ l0 _ _ l1 _ _ l2 1 t464 t465 _ ?side1 ?side2 ?side3 ?side4 ?side5 ?side6 A7.out).mono ?_); (case side1 => exact cK (Kd.C_below HR0.out HB.out)); (case side2 => exact HC0.out); (case side3 => exact cK (Kd.C_below HR1.out HB.out)); (case side4 => exact HC1.out); (case side5 => exact cK ((Kd.V_reads' HO2.out).2.2)); (case side6 => exact (Kd.V_reads' HO2.out).2.1); rintro e w14 ⟨v466, rfl, ho0, hb⟩; refine ⟨_, rfl, ?_⟩; have n0_ := Aside0.mk (Kd.V_elder' (by (with_reducible repeat (first | apply Kd.V_alloc | apply Kd.V_drewN | apply Kd.V_drew)); exact HO2.out) (Kd.R_base ho0) hb); have n1_ := Aside0.mk (Kd.R_elder' (rK HO463) (Kd.R_base ho0) hb); have n2_ := Aside0.mk (Kd.R_lower (Kd.R_new' (Kd.R_newM (M := fun k_ => (w.heap.size ≤ k_)) ho0 (below_size bB) (fun k_ h_ => h_)) (Kd.R_lt (rK HO463))) (below_size bB)); have n3_ := Aside0.mk (below_step bB hb); clear HO2; clear HO463; clear HB; have HO2 := n0_; have HO463 := n1_; have HO467 := n2_; have HB := n3_; clear n0_ n1_ n2_ n3_; (try clear hb); (try clear hb2); (try clear hk); (try clear hi); (try clear ho0)) | ((with_reducible refine gate_callee (f := 18) rfl ?_); refine goesL_ (some 38) rfl rfl Tryd.func18 (by kernel_rfl) rfl #[.slice A0 l0.length c0, .slice A1 l1.length c1, .slice A2 l2.length c2, .int .i64 2] rfl mA ?_; (with_reducible refine (path_Find.calls (hG := gK) k _ _ l0 _ _ l1 _ _ l2 2 t468 t469 _ ?side1 ?side2 ?side3 ?side4 ?side5 ?side6 A8.out).mono ?_); (case side1 => exact cK (Kd.C_below HR0.out HB.out)); (case side2 => exact HC0.out); (case side3 => exact cK (Kd.C_below HR1.out HB.out)); (case side4 => exact HC1.out); (case side5 => exact cK ((Kd.V_reads' HO2.out).2.2)); (case side6 => exact (Kd.V_reads' HO2.out).2.1); rintro e w15 ⟨v470, rfl, ho0, hb⟩; refine ⟨_, rfl, ?_⟩; have n0_ := Aside0.mk (Kd.V_elder' (by (with_reducible repeat (first | apply Kd.V_alloc | apply Kd.V_drewN | apply Kd.V_drew)); exact HO2.out) (Kd.R_base ho0) hb); have n1_ := Aside0.mk (Kd.R_elder' (rK HO463) (Kd.R_base ho0) hb); have n2_ := Aside0.mk (Kd.R_elder' (rK HO467) (Kd.R_base ho0) hb); have n3_ := Aside0.mk (Kd.R_lower (Kd.R_new' (Kd.R_new' (Kd.R_newM (M := fun k_ => (w.heap.size ≤ k_)) ho0 (below_size bB) (fun k_ h_ => h_)) (Kd.R_lt (rK HO463))) (Kd.R_lt (rK HO467))) (below_size bB)); have n4_ := Aside0.mk (below_step bB hb); clear HO2; clear HO463; clear HO467; clear HB; have HO2 := n0_; have HO463 := n1_; have HO467 := n2_; have HO471 := n3_; have HB := n4_; clear n0_ n1_ n2_ n3_ n4_; (try clear hb); (try clear hb2); (try clear hk); (try clear hi); (try clear ho0)) | ((with_reducible refine gate_callee (f := 13) rfl ?_); refine goesL_ (some 42) rfl rfl Tryd.func13 (by kernel_rfl) rfl #[.int .i64 t461] rfl mA ?_; (with_reducible refine (quaerelaw0_Num.calls t461 t472 _ A9.out).mono ?_); rintro e w' ⟨rfl, ⟨nd, rfl⟩⟩; refine ⟨_, rfl, ?_⟩))
   (try simp only [Act.put, List.setIfInBounds_toArray, List.set_cons_zero, List.set_cons_succ])
   go_cut [74] (fun v74 wc => ∃ (kq : Nat) (x74_10 : Bool), v74 = .bool x74_10 ∧ Aside0 (quaerelaw12_PathWays.j0 kq l0 l1 l2 t460 t464 t468 x74_10 = some r) ∧ Aside0 (kq ≤ k) ∧ Aside0 (Kd.V (Kd.int .i64) 3 wc w.heap.size (fun k_ => (P2_ k_ ∨ w.heap.size ≤ k_) ∧ some k_ ≠ (v462 : Value).ownBlock ∧ some k_ ≠ (v466 : Value).ownBlock ∧ some k_ ≠ (v470 : Value).ownBlock) (.slice A2 l2.length c2) l2) ∧ Aside0 (Kd.R (Kd.int .i64) 3 wc w.heap.size (fun k_ => (w.heap.size ≤ k_) ∧ some k_ ≠ (v466 : Value).ownBlock ∧ some k_ ≠ (v470 : Value).ownBlock) v462 t460) ∧ Aside0 (Kd.R (Kd.int .i64) 3 wc w.heap.size (fun k_ => (w.heap.size ≤ k_) ∧ some k_ ≠ (v462 : Value).ownBlock ∧ some k_ ≠ (v470 : Value).ownBlock) v466 t464) ∧ Aside0 (Kd.R (Kd.int .i64) 3 wc w.heap.size (fun k_ => (w.heap.size ≤ k_) ∧ some k_ ≠ (v462 : Value).ownBlock ∧ some k_ ≠ (v466 : Value).ownBlock) v470 t468) ∧ Aside0 (Below w.heap.size w wc))
   case first =>
    have H := HC11.out
    clear HC11
    replace H := Option.bind_eq_some_iff.mp H
    obtain ⟨t477, A160, H⟩ := H
    replace H : (if t477 = 0 then ((quaerelaw0_Num.f t469).bind fun t478 => (quaerelaw12_PathWays.j0 k l0 l1 l2 t460 t464 t468 (t478 != 0))) else (quaerelaw12_PathWays.j0 k l0 l1 l2 t460 t464 t468 true)) = some r := H
    have A16 := Aside0.mk A160
    clear A160
    by_cases c17 : t477 = 0
    ·rw [if_pos c17] at H
     have c17b0 : (t477 == 0) = true := beq_iff_eq.mpr c17
     have c17b1 : (t477 != 0) = false := bne_eq_false_iff_eq.mpr c17
     clear c17
     (first | rw [c17b0] | (simp only [i64_w, i32_w]; rw [c17b0]) | skip)
     replace H := Option.bind_eq_some_iff.mp H
     obtain ⟨t478, A180, H⟩ := H
     replace H : (quaerelaw12_PathWays.j0 k l0 l1 l2 t460 t464 t468 (t478 != 0)) = some r := H
     have A18 := Aside0.mk A180
     clear A180
     have H' := Aside0.mk H
     clear H
     go_wp2_with (first | ((with_reducible refine gate_callee (f := 13) rfl ?_); refine goesL_ (some 68) rfl rfl Tryd.func13 (by kernel_rfl) rfl #[.int .i64 t465] rfl mA ?_; (with_reducible refine (quaerelaw0_Num.calls t465 t477 _ A16.out).mono ?_); rintro e w' ⟨rfl, ⟨nd, rfl⟩⟩; refine ⟨_, rfl, ?_⟩) | (go_at_call 13; (with_reducible refine (quaerelaw0_Num.calls t469 t478 _ A18.out).mono ?_); rintro e w' ⟨rfl, ⟨nd, rfl⟩⟩))
     go_meet
     case rel => exact ⟨_, ((t478 != 0)), sK, H', ⟨by first | omega | exact Nat.le_refl _⟩, ⟨by (with_reducible repeat (first | apply Kd.V_alloc | apply Kd.V_drewN | apply Kd.V_drew)); exact Kd.V_mono HO2.out (fun _ hk => ⟨hk.1.1.1, ⟨hk.1.1.2, ⟨hk.1.2, hk.2⟩⟩⟩)⟩, ⟨by (with_reducible repeat (first | apply Kd.R_alloc | apply Kd.R_drewN | apply Kd.R_drew)); exact Kd.R_mono HO463.out (fun _ hk => ⟨hk.1.1.1, ⟨hk.1.2, hk.2⟩⟩)⟩, ⟨by (with_reducible repeat (first | apply Kd.R_alloc | apply Kd.R_drewN | apply Kd.R_drew)); exact Kd.R_mono HO467.out (fun _ hk => ⟨hk.1.1.1, ⟨hk.1.2, hk.2⟩⟩)⟩, ⟨by (with_reducible repeat (first | apply Kd.R_alloc | apply Kd.R_drewN | apply Kd.R_drew)); exact Kd.R_mono HO471.out (fun _ hk => ⟨hk.1.1.1, ⟨hk.1.2, hk.2⟩⟩)⟩, ⟨bB⟩⟩
    ·rw [if_neg c17] at H
     have c17b0 : (t477 == 0) = false := beq_eq_false_iff_ne.mpr c17
     have c17b1 : (t477 != 0) = true := bne_iff_ne.mpr c17
     (first | rw [c17b0] | (simp only [i64_w, i32_w]; rw [c17b0]) | skip)
     have H' := Aside0.mk H
     clear H
     go_wp2_with (first | ((with_reducible refine gate_callee (f := 13) rfl ?_); refine goesL_ (some 68) rfl rfl Tryd.func13 (by kernel_rfl) rfl #[.int .i64 t465] rfl mA ?_; (with_reducible refine (quaerelaw0_Num.calls t465 t477 _ A16.out).mono ?_); rintro e w' ⟨rfl, ⟨nd, rfl⟩⟩; refine ⟨_, rfl, ?_⟩))
     go_meet
     case rel => exact ⟨_, (true), sK, H', ⟨by first | omega | exact Nat.le_refl _⟩, ⟨by (with_reducible repeat (first | apply Kd.V_alloc | apply Kd.V_drewN | apply Kd.V_drew)); exact Kd.V_mono HO2.out (fun _ hk => ⟨hk.1.1.1, ⟨hk.1.1.2, ⟨hk.1.2, hk.2⟩⟩⟩)⟩, ⟨by (with_reducible repeat (first | apply Kd.R_alloc | apply Kd.R_drewN | apply Kd.R_drew)); exact Kd.R_mono HO463.out (fun _ hk => ⟨hk.1.1.1, ⟨hk.1.2, hk.2⟩⟩)⟩, ⟨by (with_reducible repeat (first | apply Kd.R_alloc | apply Kd.R_drewN | apply Kd.R_drew)); exact Kd.R_mono HO467.out (fun _ hk => ⟨hk.1.1.1, ⟨hk.1.2, hk.2⟩⟩)⟩, ⟨by (with_reducible repeat (first | apply Kd.R_alloc | apply Kd.R_drewN | apply Kd.R_drew)); exact Kd.R_mono HO471.out (fun _ hk => ⟨hk.1.1.1, ⟨hk.1.2, hk.2⟩⟩)⟩, ⟨bB⟩⟩
   case rest =>
    clear HC11
    try clear c1
    try clear c2
    try clear p2
    try clear c5
    try clear p6
    try clear c10
    try clear c10b0
    try clear c10b1
    try clear c13
    try clear c16
    try clear c17
    try clear c17b0
    try clear c17b1
    try clear c18
    obtain ⟨kq, x74_10, rfl, HA, HJ10, HO_2, HO_7, HO_9, HO_11, HB⟩ := hcut
    cases kq with
    | zero => exact absurd HA.out (by simp [quaerelaw12_PathWays.j0])
    | succ kj10 =>
     have H := HA.out
     clear HA
     simp only [quaerelaw12_PathWays.j0] at H
     by_cases c19 : x74_10 = true
     ·subst c19
      have H1 : (some false) = some r := by rw [if_pos rfl] at H; exact H
      clear H
      have H := H1
      clear H1
      obtain rfl := Option.some.inj H
      go_wp2
      go_ret
      exact ⟨eK, bB⟩
     ·replace c19 := Bool.eq_false_iff.mpr c19
      subst c19
      have H1 : (quaerelaw12_PathWays.l0 kj10 l0 l1 l2 t460 t464 t468 0) = some r := by rw [if_neg (show ¬ (false = true) by decide)] at H; exact H
      clear H
      have H := H1
      clear H1
      have H' := Aside0.mk H
      clear H
      go_wp2
      go_loopg [13] kj10 (fun kq v13 w' => ∃ (x13_2 : Int), v13 = .int .i64 x13_2 ∧ Aside0 (quaerelaw12_PathWays.l0 kq l0 l1 l2 t460 t464 t468 x13_2 = some r) ∧ Aside0 (kq ≤ kj10) ∧ Aside0 (Kd.V (Kd.int .i64) 3 w' w.heap.size (fun k_ => (P2_ k_ ∨ w.heap.size ≤ k_) ∧ some k_ ≠ (v462 : Value).ownBlock ∧ some k_ ≠ (v466 : Value).ownBlock ∧ some k_ ≠ (v470 : Value).ownBlock) (.slice A2 l2.length c2) l2) ∧ Aside0 (Kd.R (Kd.int .i64) 3 w' w.heap.size (fun k_ => (w.heap.size ≤ k_) ∧ some k_ ≠ (v466 : Value).ownBlock ∧ some k_ ≠ (v470 : Value).ownBlock) v462 t460) ∧ Aside0 (Kd.R (Kd.int .i64) 3 w' w.heap.size (fun k_ => (w.heap.size ≤ k_) ∧ some k_ ≠ (v462 : Value).ownBlock ∧ some k_ ≠ (v470 : Value).ownBlock) v466 t464) ∧ Aside0 (Kd.R (Kd.int .i64) 3 w' w.heap.size (fun k_ => (w.heap.size ≤ k_) ∧ some k_ ≠ (v462 : Value).ownBlock ∧ some k_ ≠ (v466 : Value).ownBlock) v470 t468) ∧ Aside0 (Below w.heap.size w w'))
      case atStart => exact ⟨(0), sK, H', ⟨Nat.le_refl _⟩, ⟨by (with_reducible repeat (first | apply Kd.V_alloc | apply Kd.V_drewN | apply Kd.V_drew)); exact HO_2.out⟩, ⟨by (with_reducible repeat (first | apply Kd.R_alloc | apply Kd.R_drewN | apply Kd.R_drew)); exact HO_7.out⟩, ⟨by (with_reducible repeat (first | apply Kd.R_alloc | apply Kd.R_drewN | apply Kd.R_drew)); exact HO_9.out⟩, ⟨by (with_reducible repeat (first | apply Kd.R_alloc | apply Kd.R_drewN | apply Kd.R_drew)); exact HO_11.out⟩, ⟨bB⟩⟩
      case round =>
       clear H'
       try clear c1
       try clear c2
       try clear p2
       try clear c5
       try clear p6
       try clear c10
       try clear c10b0
       try clear c10b1
       try clear c13
       try clear c16
       try clear c17
       try clear c17b0
       try clear c17b1
       try clear c18
       try clear c19
       try clear p2
       try clear p6
       obtain ⟨x13_2, rfl, HA, HK2, HO_2, HO_7, HO_9, HO_11, HB⟩ := hrel
       cases gk with
       | zero => exact absurd HA.out (by simp [quaerelaw12_PathWays.l0])
       | succ k2 =>
        have H := HA.out
        clear HA
        simp only [quaerelaw12_PathWays.l0] at H
        by_cases c20 : x13_2 < (l1.length : Int)
        ·rw [if_pos c20] at H
         have c20b0 : decide (x13_2 < (l1.length : Int)) = true := decide_eq_true c20
         clear c20
         by_cases c21 : 0 ≤ x13_2
         ·rw [if_pos c21] at H
          have c21b0 : decide (0 ≤ x13_2) = true := decide_eq_true c21
          clear c21
          by_cases c22 : ((rd_L3 l1 x13_2).length : Int) = 0
          ·rw [if_pos c22] at H
           have c22b0 : (((rd_L3 l1 x13_2).length : Int) == 0) = true := beq_iff_eq.mpr c22
           have c22b1 : (((rd_L3 l1 x13_2).length : Int) != 0) = false := bne_eq_false_iff_eq.mpr c22
           clear c22
           replace H := Option.bind_eq_some_iff.mp H
           obtain ⟨t480, A230, H⟩ := H
           replace H : (if t480 = true then (some false) else ((quaerelaw12_among.f k2 t464 x13_2).bind fun t481 => (if t481 = true then (some false) else ((quaerelaw12_among.f k2 t468 x13_2).bind fun t482 => (if t482 = true then (some false) else (quaerelaw12_PathWays.l0 k2 l0 l1 l2 t460 t464 t468 (wrap64 (x13_2 + 1)))))))) = some r := H
           have A23 := Aside0.mk A230
           clear A230
           by_cases c24 : t480 = true
           ·subst c24
            have H1 : (some false) = some r := by rw [if_pos rfl] at H; exact H
            clear H
            have H := H1
            clear H1
            obtain rfl := Option.some.inj H
            have p479 : 0 ≤ (x13_2 : Int) := of_decide_eq_true aK
            have q479 : x13_2 < (l1.length : Int) := of_decide_eq_true aK
            obtain ⟨ad479, A479_0, c479_0, e479, hx479_0, hl479_0, hi479_0⟩ := at_L3 HR1.out x13_2 p479 q479
            cases e479
            replace hx479_0 := (HB.out.cell (World.block_lt_of_cell? w _ hx479_0)).trans hx479_0
            have HR479_0 := Aside0.mk hi479_0
            have HC479_0 := Aside0.mk hl479_0
            clear hi479_0 hl479_0
            replace p479 := eq_true p479
            replace q479 := eq_true q479
            obtain ⟨Ao25, co25, eo25⟩ := Kd.R_slice HO_7.out
            subst eo25
            go_wp2_with (first | ((with_reducible refine gate_callee (f := 21) rfl ?_); refine goesL_ (some 89) rfl rfl Tryd.func21 (by kernel_rfl) rfl #[.slice Ao25 t460.length co25, .int .i64 x13_2] rfl mA ?_; (with_reducible refine (quaerelaw12_among.calls k2 _ _ t460 x13_2 true _ ?side1 ?side2 A23.out).mono ?_); (case side1 => exact cK ((Kd.R_reads' HO_7.out).2.2)); (case side2 => exact (Kd.R_reads' HO_7.out).2.1); rintro e w' ⟨rfl, ⟨nd, rfl⟩⟩; refine ⟨_, rfl, ?_⟩))
            go_ret
            exact ⟨eK, bB⟩
           ·replace c24 := Bool.eq_false_iff.mpr c24
            subst c24
            have H1 : ((quaerelaw12_among.f k2 t464 x13_2).bind fun t481 => (if t481 = true then (some false) else ((quaerelaw12_among.f k2 t468 x13_2).bind fun t482 => (if t482 = true then (some false) else (quaerelaw12_PathWays.l0 k2 l0 l1 l2 t460 t464 t468 (wrap64 (x13_2 + 1))))))) = some r := by rw [if_neg (show ¬ (false = true) by decide)] at H; exact H
            clear H
            have H := H1
            clear H1
            replace H := Option.bind_eq_some_iff.mp H
            obtain ⟨t481, A260, H⟩ := H
            replace H : (if t481 = true then (some false) else ((quaerelaw12_among.f k2 t468 x13_2).bind fun t482 => (if t482 = true then (some false) else (quaerelaw12_PathWays.l0 k2 l0 l1 l2 t460 t464 t468 (wrap64 (x13_2 + 1)))))) = some r := H
            have A26 := Aside0.mk A260
            clear A260
            by_cases c27 : t481 = true
            ·subst c27
             have H1 : (some false) = some r := by rw [if_pos rfl] at H; exact H
             clear H
             have H := H1
             clear H1
             obtain rfl := Option.some.inj H
             have p479 : 0 ≤ (x13_2 : Int) := of_decide_eq_true aK
             have q479 : x13_2 < (l1.length : Int) := of_decide_eq_true aK
             obtain ⟨ad479, A479_0, c479_0, e479, hx479_0, hl479_0, hi479_0⟩ := at_L3 HR1.out x13_2 p479 q479
             cases e479
             replace hx479_0 := (HB.out.cell (World.block_lt_of_cell? w _ hx479_0)).trans hx479_0
             have HR479_0 := Aside0.mk hi479_0
             have HC479_0 := Aside0.mk hl479_0
             clear hi479_0 hl479_0
             replace p479 := eq_true p479
             replace q479 := eq_true q479
             obtain ⟨Ao28, co28, eo28⟩ := Kd.R_slice HO_7.out
             subst eo28
             go_wp2_with (first | ((with_reducible refine gate_callee (f := 21) rfl ?_); refine goesL_ (some 89) rfl rfl Tryd.func21 (by kernel_rfl) rfl #[.slice Ao28 t460.length co28, .int .i64 x13_2] rfl mA ?_; (with_reducible refine (quaerelaw12_among.calls k2 _ _ t460 x13_2 false _ ?side1 ?side2 A23.out).mono ?_); (case side1 => exact cK ((Kd.R_reads' HO_7.out).2.2)); (case side2 => exact (Kd.R_reads' HO_7.out).2.1); rintro e w' ⟨rfl, ⟨nd, rfl⟩⟩; refine ⟨_, rfl, ?_⟩; obtain ⟨Ao29, co29, eo29⟩ := Kd.R_slice HO_9.out; subst eo29) | (go_at_call 21; (with_reducible refine (quaerelaw12_among.calls k2 _ _ t464 x13_2 true _ ?side1 ?side2 A26.out).mono ?_); (case side1 => exact cK ((Kd.R_reads' HO_9.out).2.2)); (case side2 => exact (Kd.R_reads' HO_9.out).2.1); rintro e w' ⟨rfl, ⟨nd, rfl⟩⟩))
             go_ret
             exact ⟨eK, bB⟩
            ·replace c27 := Bool.eq_false_iff.mpr c27
             subst c27
             have H1 : ((quaerelaw12_among.f k2 t468 x13_2).bind fun t482 => (if t482 = true then (some false) else (quaerelaw12_PathWays.l0 k2 l0 l1 l2 t460 t464 t468 (wrap64 (x13_2 + 1))))) = some r := by rw [if_neg (show ¬ (false = true) by decide)] at H; exact H
             clear H
             have H := H1
             clear H1
             replace H := Option.bind_eq_some_iff.mp H
             obtain ⟨t482, A300, H⟩ := H
             replace H : (if t482 = true then (some false) else (quaerelaw12_PathWays.l0 k2 l0 l1 l2 t460 t464 t468 (wrap64 (x13_2 + 1)))) = some r := H
             have A30 := Aside0.mk A300
             clear A300
             by_cases c31 : t482 = true
             ·subst c31
              have H1 : (some false) = some r := by rw [if_pos rfl] at H; exact H
              clear H
              have H := H1
              clear H1
              obtain rfl := Option.some.inj H
              have p479 : 0 ≤ (x13_2 : Int) := of_decide_eq_true aK
              have q479 : x13_2 < (l1.length : Int) := of_decide_eq_true aK
              obtain ⟨ad479, A479_0, c479_0, e479, hx479_0, hl479_0, hi479_0⟩ := at_L3 HR1.out x13_2 p479 q479
              cases e479
              replace hx479_0 := (HB.out.cell (World.block_lt_of_cell? w _ hx479_0)).trans hx479_0
              have HR479_0 := Aside0.mk hi479_0
              have HC479_0 := Aside0.mk hl479_0
              clear hi479_0 hl479_0
              replace p479 := eq_true p479
              replace q479 := eq_true q479
              obtain ⟨Ao32, co32, eo32⟩ := Kd.R_slice HO_7.out
              subst eo32
              go_wp2_with (first | ((with_reducible refine gate_callee (f := 21) rfl ?_); refine goesL_ (some 89) rfl rfl Tryd.func21 (by kernel_rfl) rfl #[.slice Ao32 t460.length co32, .int .i64 x13_2] rfl mA ?_; (with_reducible refine (quaerelaw12_among.calls k2 _ _ t460 x13_2 false _ ?side1 ?side2 A23.out).mono ?_); (case side1 => exact cK ((Kd.R_reads' HO_7.out).2.2)); (case side2 => exact (Kd.R_reads' HO_7.out).2.1); rintro e w' ⟨rfl, ⟨nd, rfl⟩⟩; refine ⟨_, rfl, ?_⟩; obtain ⟨Ao33, co33, eo33⟩ := Kd.R_slice HO_9.out; subst eo33) | (go_at_call 21; (with_reducible refine (quaerelaw12_among.calls k2 _ _ t464 x13_2 false _ ?side1 ?side2 A26.out).mono ?_); (case side1 => exact cK ((Kd.R_reads' HO_9.out).2.2)); (case side2 => exact (Kd.R_reads' HO_9.out).2.1); rintro e w' ⟨rfl, ⟨nd, rfl⟩⟩; obtain ⟨Ao34, co34, eo34⟩ := Kd.R_slice HO_11.out; subst eo34) | (go_at_call 21; (with_reducible refine (quaerelaw12_among.calls k2 _ _ t468 x13_2 true _ ?side1 ?side2 A30.out).mono ?_); (case side1 => exact cK ((Kd.R_reads' HO_11.out).2.2)); (case side2 => exact (Kd.R_reads' HO_11.out).2.1); rintro e w' ⟨rfl, ⟨nd, rfl⟩⟩))
              go_ret
              exact ⟨eK, bB⟩
             ·replace c31 := Bool.eq_false_iff.mpr c31
              subst c31
              have H1 : (quaerelaw12_PathWays.l0 k2 l0 l1 l2 t460 t464 t468 (wrap64 (x13_2 + 1))) = some r := by rw [if_neg (show ¬ (false = true) by decide)] at H; exact H
              clear H
              have H := H1
              clear H1
              have H' := Aside0.mk H
              clear H
              have p479 : 0 ≤ (x13_2 : Int) := of_decide_eq_true aK
              have q479 : x13_2 < (l1.length : Int) := of_decide_eq_true aK
              obtain ⟨ad479, A479_0, c479_0, e479, hx479_0, hl479_0, hi479_0⟩ := at_L3 HR1.out x13_2 p479 q479
              cases e479
              replace hx479_0 := (HB.out.cell (World.block_lt_of_cell? w _ hx479_0)).trans hx479_0
              have HR479_0 := Aside0.mk hi479_0
              have HC479_0 := Aside0.mk hl479_0
              clear hi479_0 hl479_0
              replace p479 := eq_true p479
              replace q479 := eq_true q479
              obtain ⟨Ao35, co35, eo35⟩ := Kd.R_slice HO_7.out
              subst eo35
              go_wp2_with (first | ((with_reducible refine gate_callee (f := 21) rfl ?_); refine goesL_ (some 89) rfl rfl Tryd.func21 (by kernel_rfl) rfl #[.slice Ao35 t460.length co35, .int .i64 x13_2] rfl mA ?_; (with_reducible refine (quaerelaw12_among.calls k2 _ _ t460 x13_2 false _ ?side1 ?side2 A23.out).mono ?_); (case side1 => exact cK ((Kd.R_reads' HO_7.out).2.2)); (case side2 => exact (Kd.R_reads' HO_7.out).2.1); rintro e w' ⟨rfl, ⟨nd, rfl⟩⟩; refine ⟨_, rfl, ?_⟩; obtain ⟨Ao36, co36, eo36⟩ := Kd.R_slice HO_9.out; subst eo36) | (go_at_call 21; (with_reducible refine (quaerelaw12_among.calls k2 _ _ t464 x13_2 false _ ?side1 ?side2 A26.out).mono ?_); (case side1 => exact cK ((Kd.R_reads' HO_9.out).2.2)); (case side2 => exact (Kd.R_reads' HO_9.out).2.1); rintro e w' ⟨rfl, ⟨nd, rfl⟩⟩; obtain ⟨Ao37, co37, eo37⟩ := Kd.R_slice HO_11.out; subst eo37) | (go_at_call 21; (with_reducible refine (quaerelaw12_among.calls k2 _ _ t468 x13_2 false _ ?side1 ?side2 A30.out).mono ?_); (case side1 => exact cK ((Kd.R_reads' HO_11.out).2.2)); (case side2 => exact (Kd.R_reads' HO_11.out).2.1); rintro e w' ⟨rfl, ⟨nd, rfl⟩⟩))
              go_roundg k2
              case measure => have := HJ10.out; have := HK2.out; omega
              case rel => exact ⟨(wrap64 (x13_2 + 1)), sK, H', ⟨by have := HJ10.out; have := HK2.out; omega⟩, ⟨by (with_reducible repeat (first | apply Kd.V_alloc | apply Kd.V_drewN | apply Kd.V_drew)); exact HO_2.out⟩, ⟨by (with_reducible repeat (first | apply Kd.R_alloc | apply Kd.R_drewN | apply Kd.R_drew)); exact HO_7.out⟩, ⟨by (with_reducible repeat (first | apply Kd.R_alloc | apply Kd.R_drewN | apply Kd.R_drew)); exact HO_9.out⟩, ⟨by (with_reducible repeat (first | apply Kd.R_alloc | apply Kd.R_drewN | apply Kd.R_drew)); exact HO_11.out⟩, ⟨bB⟩⟩
          ·rw [if_neg c22] at H
           have c22b0 : (((rd_L3 l1 x13_2).length : Int) == 0) = false := beq_eq_false_iff_ne.mpr c22
           have c22b1 : (((rd_L3 l1 x13_2).length : Int) != 0) = true := bne_iff_ne.mpr c22
           have c22b2 : ¬ ((rd_L3 l1 x13_2) = []) := fun h_ => c22 (by rw [h_]; rfl)
           have HC38 := Aside0.mk H
           clear H
           have p479 : 0 ≤ (x13_2 : Int) := of_decide_eq_true aK
           have q479 : x13_2 < (l1.length : Int) := of_decide_eq_true aK
           obtain ⟨ad479, A479_0, c479_0, e479, hx479_0, hl479_0, hi479_0⟩ := at_L3 HR1.out x13_2 p479 q479
           cases e479
           replace hx479_0 := (HB.out.cell (World.block_lt_of_cell? w _ hx479_0)).trans hx479_0
           have HR479_0 := Aside0.mk hi479_0
           have HC479_0 := Aside0.mk hl479_0
           clear hi479_0 hl479_0
           replace p479 := eq_true p479
           replace q479 := eq_true q479
           go_upto_region 16 with (fail)
           go_cut [119] (fun v119 wc => ∃ (kq : Nat) (x119_37 : Bool), v119 = .bool x119_37 ∧ Aside0 (quaerelaw12_PathWays.j2 kq l0 l1 l2 t460 t464 t468 x13_2 x119_37 = some r) ∧ Aside0 (kq ≤ k2) ∧ Aside0 (Kd.V (Kd.int .i64) 3 wc w.heap.size (fun k_ => (P2_ k_ ∨ w.heap.size ≤ k_) ∧ some k_ ≠ (v462 : Value).ownBlock ∧ some k_ ≠ (v466 : Value).ownBlock ∧ some k_ ≠ (v470 : Value).ownBlock) (.slice A2 l2.length c2) l2) ∧ Aside0 (Kd.R (Kd.int .i64) 3 wc w.heap.size (fun k_ => (w.heap.size ≤ k_) ∧ some k_ ≠ (v466 : Value).ownBlock ∧ some k_ ≠ (v470 : Value).ownBlock) v462 t460) ∧ Aside0 (Kd.R (Kd.int .i64) 3 wc w.heap.size (fun k_ => (w.heap.size ≤ k_) ∧ some k_ ≠ (v462 : Value).ownBlock ∧ some k_ ≠ (v470 : Value).ownBlock) v466 t464) ∧ Aside0 (Kd.R (Kd.int .i64) 3 wc w.heap.size (fun k_ => (w.heap.size ≤ k_) ∧ some k_ ≠ (v462 : Value).ownBlock ∧ some k_ ≠ (v466 : Value).ownBlock) v470 t468) ∧ Aside0 (Below w.heap.size w wc))
           case first =>
            have H := HC38.out
            clear HC38
            replace H := Option.bind_eq_some_iff.mp H
            obtain ⟨t483, A390, H⟩ := H
            replace H : (if t483 = true then ((quaerelaw12_among.f k2 t460 x13_2).bind fun t484 => (if t484 = true then ((quaerelaw12_among.f k2 t468 x13_2).bind fun t485 => (if t485 = true then ((quaerelaw12_among.f k2 t460 x13_2).bind fun t486 => (quaerelaw12_PathWays.j2 k2 l0 l1 l2 t460 t464 t468 x13_2 (!t486))) else (quaerelaw12_PathWays.j2 k2 l0 l1 l2 t460 t464 t468 x13_2 false))) else (quaerelaw12_PathWays.j2 k2 l0 l1 l2 t460 t464 t468 x13_2 true))) else ((quaerelaw12_among.f k2 t468 x13_2).bind fun t487 => (if t487 = true then ((quaerelaw12_among.f k2 t460 x13_2).bind fun t488 => (quaerelaw12_PathWays.j2 k2 l0 l1 l2 t460 t464 t468 x13_2 (!t488))) else (quaerelaw12_PathWays.j2 k2 l0 l1 l2 t460 t464 t468 x13_2 false)))) = some r := H
            have A39 := Aside0.mk A390
            clear A390
            by_cases c40 : t483 = true
            ·subst c40
             have H1 : ((quaerelaw12_among.f k2 t460 x13_2).bind fun t484 => (if t484 = true then ((quaerelaw12_among.f k2 t468 x13_2).bind fun t485 => (if t485 = true then ((quaerelaw12_among.f k2 t460 x13_2).bind fun t486 => (quaerelaw12_PathWays.j2 k2 l0 l1 l2 t460 t464 t468 x13_2 (!t486))) else (quaerelaw12_PathWays.j2 k2 l0 l1 l2 t460 t464 t468 x13_2 false))) else (quaerelaw12_PathWays.j2 k2 l0 l1 l2 t460 t464 t468 x13_2 true))) = some r := by rw [if_pos rfl] at H; exact H
             clear H
             have H := H1
             clear H1
             replace H := Option.bind_eq_some_iff.mp H
             obtain ⟨t484, A410, H⟩ := H
             replace H : (if t484 = true then ((quaerelaw12_among.f k2 t468 x13_2).bind fun t485 => (if t485 = true then ((quaerelaw12_among.f k2 t460 x13_2).bind fun t486 => (quaerelaw12_PathWays.j2 k2 l0 l1 l2 t460 t464 t468 x13_2 (!t486))) else (quaerelaw12_PathWays.j2 k2 l0 l1 l2 t460 t464 t468 x13_2 false))) else (quaerelaw12_PathWays.j2 k2 l0 l1 l2 t460 t464 t468 x13_2 true)) = some r := H
             have A41 := Aside0.mk A410
             clear A410
             by_cases c42 : t484 = true
             ·subst c42
              have H1 : ((quaerelaw12_among.f k2 t468 x13_2).bind fun t485 => (if t485 = true then ((quaerelaw12_among.f k2 t460 x13_2).bind fun t486 => (quaerelaw12_PathWays.j2 k2 l0 l1 l2 t460 t464 t468 x13_2 (!t486))) else (quaerelaw12_PathWays.j2 k2 l0 l1 l2 t460 t464 t468 x13_2 false))) = some r := by rw [if_pos rfl] at H; exact H
              clear H
              have H := H1
              clear H1
              replace H := Option.bind_eq_some_iff.mp H
              obtain ⟨t485, A430, H⟩ := H
              replace H : (if t485 = true then ((quaerelaw12_among.f k2 t460 x13_2).bind fun t486 => (quaerelaw12_PathWays.j2 k2 l0 l1 l2 t460 t464 t468 x13_2 (!t486))) else (quaerelaw12_PathWays.j2 k2 l0 l1 l2 t460 t464 t468 x13_2 false)) = some r := H
              have A43 := Aside0.mk A430
              clear A430
              by_cases c44 : t485 = true
              ·subst c44
               have H1 : ((quaerelaw12_among.f k2 t460 x13_2).bind fun t486 => (quaerelaw12_PathWays.j2 k2 l0 l1 l2 t460 t464 t468 x13_2 (!t486))) = some r := by rw [if_pos rfl] at H; exact H
               clear H
               have H := H1
               clear H1
               replace H := Option.bind_eq_some_iff.mp H
               obtain ⟨t486, A450, H⟩ := H
               replace H : (quaerelaw12_PathWays.j2 k2 l0 l1 l2 t460 t464 t468 x13_2 (!t486)) = some r := H
               have A45 := Aside0.mk A450
               clear A450
               have H' := Aside0.mk H
               clear H
               obtain ⟨Ao46, co46, eo46⟩ := Kd.R_slice HO_9.out
               subst eo46
               go_wp2_with (first | ((with_reducible refine gate_callee (f := 21) rfl ?_); refine goesL_ (some 102) rfl rfl Tryd.func21 (by kernel_rfl) rfl #[.slice Ao46 t464.length co46, .int .i64 x13_2] rfl mA ?_; (with_reducible refine (quaerelaw12_among.calls k2 _ _ t464 x13_2 true _ ?side1 ?side2 A39.out).mono ?_); (case side1 => exact cK ((Kd.R_reads' HO_9.out).2.2)); (case side2 => exact (Kd.R_reads' HO_9.out).2.1); rintro e w' ⟨rfl, ⟨nd, rfl⟩⟩; refine ⟨_, rfl, ?_⟩; obtain ⟨Ao47, co47, eo47⟩ := Kd.R_slice HO_7.out; subst eo47) | (go_at_call 21; (with_reducible refine (quaerelaw12_among.calls k2 _ _ t460 x13_2 true _ ?side1 ?side2 A41.out).mono ?_); (case side1 => exact cK ((Kd.R_reads' HO_7.out).2.2)); (case side2 => exact (Kd.R_reads' HO_7.out).2.1); rintro e w' ⟨rfl, ⟨nd, rfl⟩⟩; obtain ⟨Ao48, co48, eo48⟩ := Kd.R_slice HO_11.out; subst eo48) | (go_at_call 21; (with_reducible refine (quaerelaw12_among.calls k2 _ _ t468 x13_2 true _ ?side1 ?side2 A43.out).mono ?_); (case side1 => exact cK ((Kd.R_reads' HO_11.out).2.2)); (case side2 => exact (Kd.R_reads' HO_11.out).2.1); rintro e w' ⟨rfl, ⟨nd, rfl⟩⟩) | (go_at_call 21; (with_reducible refine (quaerelaw12_among.calls k2 _ _ t460 x13_2 t486 _ ?side1 ?side2 A45.out).mono ?_); (case side1 => exact cK ((Kd.R_reads' HO_7.out).2.2)); (case side2 => exact (Kd.R_reads' HO_7.out).2.1); rintro e w' ⟨rfl, ⟨nd, rfl⟩⟩))
               go_meet
               case rel => exact ⟨_, (!t486), sK, H', ⟨by have := HJ10.out; have := HK2.out; first | omega | exact Nat.le_refl _⟩, ⟨by (with_reducible repeat (first | apply Kd.V_alloc | apply Kd.V_drewN | apply Kd.V_drew)); exact HO_2.out⟩, ⟨by (with_reducible repeat (first | apply Kd.R_alloc | apply Kd.R_drewN | apply Kd.R_drew)); exact HO_7.out⟩, ⟨by (with_reducible repeat (first | apply Kd.R_alloc | apply Kd.R_drewN | apply Kd.R_drew)); exact HO_9.out⟩, ⟨by (with_reducible repeat (first | apply Kd.R_alloc | apply Kd.R_drewN | apply Kd.R_drew)); exact HO_11.out⟩, ⟨bB⟩⟩
              ·replace c44 := Bool.eq_false_iff.mpr c44
               subst c44
               have H1 : (quaerelaw12_PathWays.j2 k2 l0 l1 l2 t460 t464 t468 x13_2 false) = some r := by rw [if_neg (show ¬ (false = true) by decide)] at H; exact H
               clear H
               have H := H1
               clear H1
               have H' := Aside0.mk H
               clear H
               obtain ⟨Ao49, co49, eo49⟩ := Kd.R_slice HO_9.out
               subst eo49
               go_wp2_with (first | ((with_reducible refine gate_callee (f := 21) rfl ?_); refine goesL_ (some 102) rfl rfl Tryd.func21 (by kernel_rfl) rfl #[.slice Ao49 t464.length co49, .int .i64 x13_2] rfl mA ?_; (with_reducible refine (quaerelaw12_among.calls k2 _ _ t464 x13_2 true _ ?side1 ?side2 A39.out).mono ?_); (case side1 => exact cK ((Kd.R_reads' HO_9.out).2.2)); (case side2 => exact (Kd.R_reads' HO_9.out).2.1); rintro e w' ⟨rfl, ⟨nd, rfl⟩⟩; refine ⟨_, rfl, ?_⟩; obtain ⟨Ao50, co50, eo50⟩ := Kd.R_slice HO_7.out; subst eo50) | (go_at_call 21; (with_reducible refine (quaerelaw12_among.calls k2 _ _ t460 x13_2 true _ ?side1 ?side2 A41.out).mono ?_); (case side1 => exact cK ((Kd.R_reads' HO_7.out).2.2)); (case side2 => exact (Kd.R_reads' HO_7.out).2.1); rintro e w' ⟨rfl, ⟨nd, rfl⟩⟩; obtain ⟨Ao51, co51, eo51⟩ := Kd.R_slice HO_11.out; subst eo51) | (go_at_call 21; (with_reducible refine (quaerelaw12_among.calls k2 _ _ t468 x13_2 false _ ?side1 ?side2 A43.out).mono ?_); (case side1 => exact cK ((Kd.R_reads' HO_11.out).2.2)); (case side2 => exact (Kd.R_reads' HO_11.out).2.1); rintro e w' ⟨rfl, ⟨nd, rfl⟩⟩))
               go_meet
               case rel => exact ⟨_, (false), sK, H', ⟨by have := HJ10.out; have := HK2.out; first | omega | exact Nat.le_refl _⟩, ⟨by (with_reducible repeat (first | apply Kd.V_alloc | apply Kd.V_drewN | apply Kd.V_drew)); exact HO_2.out⟩, ⟨by (with_reducible repeat (first | apply Kd.R_alloc | apply Kd.R_drewN | apply Kd.R_drew)); exact HO_7.out⟩, ⟨by (with_reducible repeat (first | apply Kd.R_alloc | apply Kd.R_drewN | apply Kd.R_drew)); exact HO_9.out⟩, ⟨by (with_reducible repeat (first | apply Kd.R_alloc | apply Kd.R_drewN | apply Kd.R_drew)); exact HO_11.out⟩, ⟨bB⟩⟩
             ·replace c42 := Bool.eq_false_iff.mpr c42
              subst c42
              have H1 : (quaerelaw12_PathWays.j2 k2 l0 l1 l2 t460 t464 t468 x13_2 true) = some r := by rw [if_neg (show ¬ (false = true) by decide)] at H; exact H
              clear H
              have H := H1
              clear H1
              have H' := Aside0.mk H
              clear H
              obtain ⟨Ao52, co52, eo52⟩ := Kd.R_slice HO_9.out
              subst eo52
              go_wp2_with (first | ((with_reducible refine gate_callee (f := 21) rfl ?_); refine goesL_ (some 102) rfl rfl Tryd.func21 (by kernel_rfl) rfl #[.slice Ao52 t464.length co52, .int .i64 x13_2] rfl mA ?_; (with_reducible refine (quaerelaw12_among.calls k2 _ _ t464 x13_2 true _ ?side1 ?side2 A39.out).mono ?_); (case side1 => exact cK ((Kd.R_reads' HO_9.out).2.2)); (case side2 => exact (Kd.R_reads' HO_9.out).2.1); rintro e w' ⟨rfl, ⟨nd, rfl⟩⟩; refine ⟨_, rfl, ?_⟩; obtain ⟨Ao53, co53, eo53⟩ := Kd.R_slice HO_7.out; subst eo53) | (go_at_call 21; (with_reducible refine (quaerelaw12_among.calls k2 _ _ t460 x13_2 false _ ?side1 ?side2 A41.out).mono ?_); (case side1 => exact cK ((Kd.R_reads' HO_7.out).2.2)); (case side2 => exact (Kd.R_reads' HO_7.out).2.1); rintro e w' ⟨rfl, ⟨nd, rfl⟩⟩))
              go_meet
              case rel => exact ⟨_, (true), sK, H', ⟨by have := HJ10.out; have := HK2.out; first | omega | exact Nat.le_refl _⟩, ⟨by (with_reducible repeat (first | apply Kd.V_alloc | apply Kd.V_drewN | apply Kd.V_drew)); exact HO_2.out⟩, ⟨by (with_reducible repeat (first | apply Kd.R_alloc | apply Kd.R_drewN | apply Kd.R_drew)); exact HO_7.out⟩, ⟨by (with_reducible repeat (first | apply Kd.R_alloc | apply Kd.R_drewN | apply Kd.R_drew)); exact HO_9.out⟩, ⟨by (with_reducible repeat (first | apply Kd.R_alloc | apply Kd.R_drewN | apply Kd.R_drew)); exact HO_11.out⟩, ⟨bB⟩⟩
            ·replace c40 := Bool.eq_false_iff.mpr c40
             subst c40
             have H1 : ((quaerelaw12_among.f k2 t468 x13_2).bind fun t487 => (if t487 = true then ((quaerelaw12_among.f k2 t460 x13_2).bind fun t488 => (quaerelaw12_PathWays.j2 k2 l0 l1 l2 t460 t464 t468 x13_2 (!t488))) else (quaerelaw12_PathWays.j2 k2 l0 l1 l2 t460 t464 t468 x13_2 false))) = some r := by rw [if_neg (show ¬ (false = true) by decide)] at H; exact H
             clear H
             have H := H1
             clear H1
             replace H := Option.bind_eq_some_iff.mp H
             obtain ⟨t487, A540, H⟩ := H
             replace H : (if t487 = true then ((quaerelaw12_among.f k2 t460 x13_2).bind fun t488 => (quaerelaw12_PathWays.j2 k2 l0 l1 l2 t460 t464 t468 x13_2 (!t488))) else (quaerelaw12_PathWays.j2 k2 l0 l1 l2 t460 t464 t468 x13_2 false)) = some r := H
             have A54 := Aside0.mk A540
             clear A540
             by_cases c55 : t487 = true
             ·subst c55
              have H1 : ((quaerelaw12_among.f k2 t460 x13_2).bind fun t488 => (quaerelaw12_PathWays.j2 k2 l0 l1 l2 t460 t464 t468 x13_2 (!t488))) = some r := by rw [if_pos rfl] at H; exact H
              clear H
              have H := H1
              clear H1
              replace H := Option.bind_eq_some_iff.mp H
              obtain ⟨t488, A560, H⟩ := H
              replace H : (quaerelaw12_PathWays.j2 k2 l0 l1 l2 t460 t464 t468 x13_2 (!t488)) = some r := H
              have A56 := Aside0.mk A560
              clear A560
              have H' := Aside0.mk H
              clear H
              obtain ⟨Ao57, co57, eo57⟩ := Kd.R_slice HO_9.out
              subst eo57
              go_wp2_with (first | ((with_reducible refine gate_callee (f := 21) rfl ?_); refine goesL_ (some 102) rfl rfl Tryd.func21 (by kernel_rfl) rfl #[.slice Ao57 t464.length co57, .int .i64 x13_2] rfl mA ?_; (with_reducible refine (quaerelaw12_among.calls k2 _ _ t464 x13_2 false _ ?side1 ?side2 A39.out).mono ?_); (case side1 => exact cK ((Kd.R_reads' HO_9.out).2.2)); (case side2 => exact (Kd.R_reads' HO_9.out).2.1); rintro e w' ⟨rfl, ⟨nd, rfl⟩⟩; refine ⟨_, rfl, ?_⟩; obtain ⟨Ao58, co58, eo58⟩ := Kd.R_slice HO_11.out; subst eo58) | (go_at_call 21; (with_reducible refine (quaerelaw12_among.calls k2 _ _ t468 x13_2 true _ ?side1 ?side2 A54.out).mono ?_); (case side1 => exact cK ((Kd.R_reads' HO_11.out).2.2)); (case side2 => exact (Kd.R_reads' HO_11.out).2.1); rintro e w' ⟨rfl, ⟨nd, rfl⟩⟩; obtain ⟨Ao59, co59, eo59⟩ := Kd.R_slice HO_7.out; subst eo59) | (go_at_call 21; (with_reducible refine (quaerelaw12_among.calls k2 _ _ t460 x13_2 t488 _ ?side1 ?side2 A56.out).mono ?_); (case side1 => exact cK ((Kd.R_reads' HO_7.out).2.2)); (case side2 => exact (Kd.R_reads' HO_7.out).2.1); rintro e w' ⟨rfl, ⟨nd, rfl⟩⟩))
              go_meet
              case rel => exact ⟨_, (!t488), sK, H', ⟨by have := HJ10.out; have := HK2.out; first | omega | exact Nat.le_refl _⟩, ⟨by (with_reducible repeat (first | apply Kd.V_alloc | apply Kd.V_drewN | apply Kd.V_drew)); exact HO_2.out⟩, ⟨by (with_reducible repeat (first | apply Kd.R_alloc | apply Kd.R_drewN | apply Kd.R_drew)); exact HO_7.out⟩, ⟨by (with_reducible repeat (first | apply Kd.R_alloc | apply Kd.R_drewN | apply Kd.R_drew)); exact HO_9.out⟩, ⟨by (with_reducible repeat (first | apply Kd.R_alloc | apply Kd.R_drewN | apply Kd.R_drew)); exact HO_11.out⟩, ⟨bB⟩⟩
             ·replace c55 := Bool.eq_false_iff.mpr c55
              subst c55
              have H1 : (quaerelaw12_PathWays.j2 k2 l0 l1 l2 t460 t464 t468 x13_2 false) = some r := by rw [if_neg (show ¬ (false = true) by decide)] at H; exact H
              clear H
              have H := H1
              clear H1
              have H' := Aside0.mk H
              clear H
              obtain ⟨Ao60, co60, eo60⟩ := Kd.R_slice HO_9.out
              subst eo60
              go_wp2_with (first | ((with_reducible refine gate_callee (f := 21) rfl ?_); refine goesL_ (some 102) rfl rfl Tryd.func21 (by kernel_rfl) rfl #[.slice Ao60 t464.length co60, .int .i64 x13_2] rfl mA ?_; (with_reducible refine (quaerelaw12_among.calls k2 _ _ t464 x13_2 false _ ?side1 ?side2 A39.out).mono ?_); (case side1 => exact cK ((Kd.R_reads' HO_9.out).2.2)); (case side2 => exact (Kd.R_reads' HO_9.out).2.1); rintro e w' ⟨rfl, ⟨nd, rfl⟩⟩; refine ⟨_, rfl, ?_⟩; obtain ⟨Ao61, co61, eo61⟩ := Kd.R_slice HO_11.out; subst eo61) | (go_at_call 21; (with_reducible refine (quaerelaw12_among.calls k2 _ _ t468 x13_2 false _ ?side1 ?side2 A54.out).mono ?_); (case side1 => exact cK ((Kd.R_reads' HO_11.out).2.2)); (case side2 => exact (Kd.R_reads' HO_11.out).2.1); rintro e w' ⟨rfl, ⟨nd, rfl⟩⟩))
              go_meet
              case rel => exact ⟨_, (false), sK, H', ⟨by have := HJ10.out; have := HK2.out; first | omega | exact Nat.le_refl _⟩, ⟨by (with_reducible repeat (first | apply Kd.V_alloc | apply Kd.V_drewN | apply Kd.V_drew)); exact HO_2.out⟩, ⟨by (with_reducible repeat (first | apply Kd.R_alloc | apply Kd.R_drewN | apply Kd.R_drew)); exact HO_7.out⟩, ⟨by (with_reducible repeat (first | apply Kd.R_alloc | apply Kd.R_drewN | apply Kd.R_drew)); exact HO_9.out⟩, ⟨by (with_reducible repeat (first | apply Kd.R_alloc | apply Kd.R_drewN | apply Kd.R_drew)); exact HO_11.out⟩, ⟨bB⟩⟩
           case rest =>
            clear HC38
            try clear c1
            try clear c2
            try clear p2
            try clear c3
            try clear c4
            try clear p4
            try clear q4
            try clear hx4
            try clear c5
            try clear p6
            try clear c10
            try clear c10b0
            try clear c10b1
            try clear c13
            try clear c16
            try clear c17
            try clear c17b0
            try clear c17b1
            try clear c18
            try clear c19
            try clear c20
            try clear c20b0
            try clear c21
            try clear c21b0
            try clear c22
            try clear c22b0
            try clear c22b1
            try clear c22b2
            try clear c24
            try clear c27
            try clear c31
            try clear c40
            try clear c42
            try clear c44
            try clear c47
            try clear p47
            try clear q47
            try clear hx47
            try clear c55
            try clear hx479_0
            try clear p2
            try clear p479
            try clear p6
            try clear q479
            obtain ⟨kq, x119_37, rfl, HA, HJ37, HO_2, HO_7, HO_9, HO_11, HB⟩ := hcut
            cases kq with
            | zero => exact absurd HA.out (by simp [quaerelaw12_PathWays.j2])
            | succ kj37 =>
             have H := HA.out
             clear HA
             simp only [quaerelaw12_PathWays.j2] at H
             by_cases c62 : x119_37 = true
             ·subst c62
              have H1 : (some false) = some r := by rw [if_pos rfl] at H; exact H
              clear H
              have H := H1
              clear H1
              obtain rfl := Option.some.inj H
              go_wp2
              go_ret
              exact ⟨eK, bB⟩
             ·replace c62 := Bool.eq_false_iff.mpr c62
              subst c62
              have H1 : (if 0 ≤ x13_2 then (if x13_2 < (l1.length : Int) then ((path_Find.f kj37 l0 (([l2] : List (List Int))) (rd_L3 l1 x13_2) 2).bind fun bt493 => ((path_Find.f kj37 l0 (([l2] : List (List Int))) (rd_L3 l1 x13_2) 0).bind fun bt501 => ((quaerelaw0_Num.f bt493.2).bind fun t505 => (if t505 = 0 then ((quaerelaw0_Num.f bt501.2).bind fun t506 => (if t506 = 0 then ((quaerelaw12_among.f kj37 t464 x13_2).bind fun t507 => (if (((bt493.1.length : Int) == 1) != t507) = true then (some false) else ((quaerelaw12_among.f kj37 t460 x13_2).bind fun t508 => (if (((bt501.1.length : Int) == 1) != t508) = true then (some false) else (quaerelaw12_PathWays.l0 kj37 l0 l1 l2 t460 t464 t468 (wrap64 (x13_2 + 1))))))) else (some false))) else (some false))))) else (none)) else (none)) = some r := by rw [if_neg (show ¬ (false = true) by decide)] at H; exact H
              clear H
              have H := H1
              clear H1
              obtain ⟨y489, hy489⟩ : ∃ y_ : List (List Int), y_ = (([l2] : List (List Int))) := ⟨_, rfl⟩
              replace H : (if 0 ≤ x13_2 then (if x13_2 < (l1.length : Int) then ((path_Find.f kj37 l0 y489 (rd_L3 l1 x13_2) 2).bind fun bt493 => ((path_Find.f kj37 l0 (([l2] : List (List Int))) (rd_L3 l1 x13_2) 0).bind fun bt501 => ((quaerelaw0_Num.f bt493.2).bind fun t505 => (if t505 = 0 then ((quaerelaw0_Num.f bt501.2).bind fun t506 => (if t506 = 0 then ((quaerelaw12_among.f kj37 t464 x13_2).bind fun t507 => (if (((bt493.1.length : Int) == 1) != t507) = true then (some false) else ((quaerelaw12_among.f kj37 t460 x13_2).bind fun t508 => (if (((bt501.1.length : Int) == 1) != t508) = true then (some false) else (quaerelaw12_PathWays.l0 kj37 l0 l1 l2 t460 t464 t468 (wrap64 (x13_2 + 1))))))) else (some false))) else (some false))))) else (none)) else (none)) = some r := by first | (rw [hy489]; with_reducible exact H) | (have H2_ := (Option.bind_some _ _).symm.trans H; rw [hy489]; with_reducible exact H2_) | (have H2_ := (Option.bind_some _ _).symm.trans H; with_reducible exact H2_) | with_reducible exact H | (rw [hy489]; exact H) | exact H
              have Ny489 := Aside0.mk hy489
              clear hy489
              by_cases c63 : 0 ≤ x13_2
              ·rw [if_pos c63] at H
               have c63b0 : decide (0 ≤ x13_2) = true := decide_eq_true c63
               clear c63
               by_cases c64 : x13_2 < (l1.length : Int)
               ·rw [if_pos c64] at H
                have c64b0 : decide (x13_2 < (l1.length : Int)) = true := decide_eq_true c64
                clear c64
                replace H := Option.bind_eq_some_iff.mp H
                obtain ⟨⟨t493, t494⟩, A650, H⟩ := H
                replace H : ((path_Find.f kj37 l0 (([l2] : List (List Int))) (rd_L3 l1 x13_2) 0).bind fun bt501 => ((quaerelaw0_Num.f t494).bind fun t505 => (if t505 = 0 then ((quaerelaw0_Num.f bt501.2).bind fun t506 => (if t506 = 0 then ((quaerelaw12_among.f kj37 t464 x13_2).bind fun t507 => (if (((t493.length : Int) == 1) != t507) = true then (some false) else ((quaerelaw12_among.f kj37 t460 x13_2).bind fun t508 => (if (((bt501.1.length : Int) == 1) != t508) = true then (some false) else (quaerelaw12_PathWays.l0 kj37 l0 l1 l2 t460 t464 t468 (wrap64 (x13_2 + 1))))))) else (some false))) else (some false)))) = some r := H
                have A65 := Aside0.mk A650
                clear A650
                obtain ⟨y497, hy497⟩ : ∃ y_ : List (List Int), y_ = (([l2] : List (List Int))) := ⟨_, rfl⟩
                replace H : ((path_Find.f kj37 l0 y497 (rd_L3 l1 x13_2) 0).bind fun bt501 => ((quaerelaw0_Num.f t494).bind fun t505 => (if t505 = 0 then ((quaerelaw0_Num.f bt501.2).bind fun t506 => (if t506 = 0 then ((quaerelaw12_among.f kj37 t464 x13_2).bind fun t507 => (if (((t493.length : Int) == 1) != t507) = true then (some false) else ((quaerelaw12_among.f kj37 t460 x13_2).bind fun t508 => (if (((bt501.1.length : Int) == 1) != t508) = true then (some false) else (quaerelaw12_PathWays.l0 kj37 l0 l1 l2 t460 t464 t468 (wrap64 (x13_2 + 1))))))) else (some false))) else (some false)))) = some r := by first | (rw [hy497]; with_reducible exact H) | (have H2_ := (Option.bind_some _ _).symm.trans H; rw [hy497]; with_reducible exact H2_) | (have H2_ := (Option.bind_some _ _).symm.trans H; with_reducible exact H2_) | with_reducible exact H | (rw [hy497]; exact H) | exact H
                have Ny497 := Aside0.mk hy497
                clear hy497
                replace H := Option.bind_eq_some_iff.mp H
                obtain ⟨⟨t501, t502⟩, A660, H⟩ := H
                replace H : ((quaerelaw0_Num.f t494).bind fun t505 => (if t505 = 0 then ((quaerelaw0_Num.f t502).bind fun t506 => (if t506 = 0 then ((quaerelaw12_among.f kj37 t464 x13_2).bind fun t507 => (if (((t493.length : Int) == 1) != t507) = true then (some false) else ((quaerelaw12_among.f kj37 t460 x13_2).bind fun t508 => (if (((t501.length : Int) == 1) != t508) = true then (some false) else (quaerelaw12_PathWays.l0 kj37 l0 l1 l2 t460 t464 t468 (wrap64 (x13_2 + 1))))))) else (some false))) else (some false))) = some r := H
                have A66 := Aside0.mk A660
                clear A660
                replace H := Option.bind_eq_some_iff.mp H
                obtain ⟨t505, A670, H⟩ := H
                replace H : (if t505 = 0 then ((quaerelaw0_Num.f t502).bind fun t506 => (if t506 = 0 then ((quaerelaw12_among.f kj37 t464 x13_2).bind fun t507 => (if (((t493.length : Int) == 1) != t507) = true then (some false) else ((quaerelaw12_among.f kj37 t460 x13_2).bind fun t508 => (if (((t501.length : Int) == 1) != t508) = true then (some false) else (quaerelaw12_PathWays.l0 kj37 l0 l1 l2 t460 t464 t468 (wrap64 (x13_2 + 1))))))) else (some false))) else (some false)) = some r := H
                have A67 := Aside0.mk A670
                clear A670
                by_cases c68 : t505 = 0
                ·rw [if_pos c68] at H
                 have c68b0 : (t505 == 0) = true := beq_iff_eq.mpr c68
                 have c68b1 : (t505 != 0) = false := bne_eq_false_iff_eq.mpr c68
                 clear c68
                 replace H := Option.bind_eq_some_iff.mp H
                 obtain ⟨t506, A690, H⟩ := H
                 replace H : (if t506 = 0 then ((quaerelaw12_among.f kj37 t464 x13_2).bind fun t507 => (if (((t493.length : Int) == 1) != t507) = true then (some false) else ((quaerelaw12_among.f kj37 t460 x13_2).bind fun t508 => (if (((t501.length : Int) == 1) != t508) = true then (some false) else (quaerelaw12_PathWays.l0 kj37 l0 l1 l2 t460 t464 t468 (wrap64 (x13_2 + 1))))))) else (some false)) = some r := H
                 have A69 := Aside0.mk A690
                 clear A690
                 by_cases c70 : t506 = 0
                 ·rw [if_pos c70] at H
                  have c70b0 : (t506 == 0) = true := beq_iff_eq.mpr c70
                  have c70b1 : (t506 != 0) = false := bne_eq_false_iff_eq.mpr c70
                  clear c70
                  replace H := Option.bind_eq_some_iff.mp H
                  obtain ⟨t507, A710, H⟩ := H
                  replace H : (if (((t493.length : Int) == 1) != t507) = true then (some false) else ((quaerelaw12_among.f kj37 t460 x13_2).bind fun t508 => (if (((t501.length : Int) == 1) != t508) = true then (some false) else (quaerelaw12_PathWays.l0 kj37 l0 l1 l2 t460 t464 t468 (wrap64 (x13_2 + 1)))))) = some r := H
                  have A71 := Aside0.mk A710
                  clear A710
                  by_cases c72 : (((t493.length : Int) == 1) != t507) = true
                  ·rw [if_pos c72] at H
                   have c72b0 : (((t493.length : Int) == 1) != t507) = true := c72
                   (try (have c72b1 : decide (((t493.length : Int) == 1) = t507) = false := by simpa using c72))
                   (try (have c72b2 : (((t493.length : Int) == 1) == t507) = false := by simpa using c72))
                   (try (have c72b3 : ¬ (((t493.length : Int) == 1) = t507) := by simpa using c72))
                   clear c72
                   obtain rfl := Option.some.inj H
                   go_wp2_with (first | ((with_reducible refine gate_dst (N := 123) rfl ?_); (try (refine gate_guard (by rfl) ?_; dsimp only)); refine Kd.N_lit (Kd.slice 3 (Kd.int .i64)) _ 23 ?hg (N' := 123) ?hd (xs := ([l2] : List (List Int))) (inner := [.slice A2 l2.length c2]) (ok := (fun k_ => (P2_ k_ ∨ w.heap.size ≤ k_) ∧ some k_ ≠ (v462 : Value).ownBlock ∧ some k_ ≠ (v466 : Value).ownBlock ∧ some k_ ≠ (v470 : Value).ownBlock)) (okp := (fun k_ => (P2_ k_ ∨ w.heap.size ≤ k_) ∧ some k_ ≠ (v462 : Value).ownBlock ∧ some k_ ≠ (v466 : Value).ownBlock ∧ some k_ ≠ (v470 : Value).ownBlock)) ?hr ?hp (fun _ hk => hk) ((show ∀ k_, wc.heap.size ≤ k_ → (fun k_ => (P2_ k_ ∨ w.heap.size ≤ k_) ∧ some k_ ≠ (v462 : Value).ownBlock ∧ some k_ ≠ (v466 : Value).ownBlock ∧ some k_ ≠ (v470 : Value).ownBlock) k_ from fun k_ hk => ⟨(.inr (Nat.le_trans (below_size bB) hk)), Kd.fresh' (Kd.R_lt (rK HO_7)) k_ hk, Kd.fresh' (Kd.R_lt (rK HO_9)) k_ hk, Kd.fresh' (Kd.R_lt (rK HO_11)) k_ hk⟩) _ (Nat.le_refl _)) (Below.refl _ _) (Nat.le_refl _) (by simp) ?_; (case hd => rfl); (case hg => rfl); (case hr => first | (go_simp; done) | (go_simp; rfl)); (case hp => exact (Reps.one (show Kd.FK (Kd.slice 3 (Kd.int .i64)) _ _ l2 [.slice A2 l2.length c2] from (Kd.FK_slice_mk (Kd.V_reads' (Kd.V_mono (ok' := (fun k_ => (P2_ k_ ∨ w.heap.size ≤ k_) ∧ some k_ ≠ (v462 : Value).ownBlock ∧ some k_ ≠ (v466 : Value).ownBlock ∧ some k_ ≠ (v470 : Value).ownBlock)) (HO_2.out) (fun k_ hk => ⟨hk.1, ⟨hk.2.1, ⟨hk.2.2.1, hk.2.2.2⟩⟩⟩))).2.1 (Kd.V_F (Kd.V_mono (ok' := (fun k_ => (P2_ k_ ∨ w.heap.size ≤ k_) ∧ some k_ ≠ (v462 : Value).ownBlock ∧ some k_ ≠ (v466 : Value).ownBlock ∧ some k_ ≠ (v470 : Value).ownBlock)) (HO_2.out) (fun k_ hk => ⟨hk.1, ⟨hk.2.1, ⟨hk.2.2.1, hk.2.2.2⟩⟩⟩))))) (Reps.none _ _))); intro v490 w73 ho74 hb hg_ hnew_; clear hg_ hnew_; (first | rw [← Ny489.out] at ho74 | (simp only [Int.reduceToNat] at ho74; rw [← Ny489.out] at ho74)); have n0_ := Aside0.mk (Kd.V_elder' (by (with_reducible repeat (first | apply Kd.V_alloc | apply Kd.V_drewN | apply Kd.V_drew)); exact HO_2.out) (Kd.N_base ho74) hb); have n1_ := Aside0.mk (Kd.R_below (rK HO_7) hb); have n2_ := Aside0.mk (Kd.R_below (rK HO_9) hb); have n3_ := Aside0.mk (Kd.R_below (rK HO_11) hb); have n4_ := Aside0.mk (Kd.N_lower ho74 (below_size bB)); have n5_ := Aside0.mk (below_step bB hb); clear HO_2; clear HO_7; clear HO_9; clear HO_11; clear HB; have HO_2 := n0_; have HO_7 := n1_; have HO_9 := n2_; have HO_11 := n3_; have HO491 := n4_; have HB := n5_; clear n0_ n1_ n2_ n3_ n4_ n5_; clear hb ho74; have p492 : 0 ≤ (x13_2 : Int) := of_decide_eq_true aK; have q492 : x13_2 < (l1.length : Int) := of_decide_eq_true aK; obtain ⟨ad492, A492_0, c492_0, e492, hx492_0, hl492_0, hi492_0⟩ := at_L3 HR1.out x13_2 p492 q492; obtain rfl : ad479 = ad492 := (by injection e492); replace hx492_0 := (HB.out.cell (World.block_lt_of_cell? w _ hx492_0)).trans hx492_0; have HR492_0 := Aside0.mk hi492_0; have HC492_0 := Aside0.mk hl492_0; clear hi492_0 hl492_0; replace p492 := eq_true p492; replace q492 := eq_true q492; obtain ⟨Ao75, co75, eo75⟩ := Kd.N_slice HO491.out; subst eo75) | ((with_reducible refine gate_callee (f := 18) rfl ?_); refine goesL_ (some 128) rfl rfl Tryd.func18 (by kernel_rfl) rfl #[.slice A0 l0.length c0, .slice Ao75 y489.length co75, .slice A492_0 (rd_L3 l1 x13_2).length c492_0, .int .i64 2] rfl mA ?_; (with_reducible refine (path_Find.calls (hG := gK) kj37 _ _ l0 _ _ y489 _ _ (rd_L3 l1 x13_2) 2 t493 t494 _ ?side1 ?side2 ?side3 ?side4 ?side5 ?side6 A65.out).mono ?_); (case side1 => exact cK (Kd.C_below HR0.out HB.out)); (case side2 => exact HC0.out); (case side3 => exact cK ((Kd.N_reads' HO491.out).2.2)); (case side4 => exact (Kd.N_reads' HO491.out).2.1); (case side5 => exact cK (Kd.C_below HR492_0.out HB.out)); (case side6 => exact HC492_0.out); rintro e w76 ⟨v495, rfl, ho0, hb⟩; refine ⟨_, rfl, ?_⟩; have n0_ := Aside0.mk (Kd.V_elder' (by (with_reducible repeat (first | apply Kd.V_alloc | apply Kd.V_drewN | apply Kd.V_drew)); exact HO_2.out) (Kd.R_base ho0) hb); have n1_ := Aside0.mk (Kd.R_elder' (rK HO_7) (Kd.R_base ho0) hb); have n2_ := Aside0.mk (Kd.R_elder' (rK HO_9) (Kd.R_base ho0) hb); have n3_ := Aside0.mk (Kd.R_elder' (rK HO_11) (Kd.R_base ho0) hb); have n4_ := Aside0.mk (Kd.N_elder' (nK HO491) (Kd.R_base ho0) hb); have n5_ := Aside0.mk (Kd.R_lower (Kd.R_new' (Kd.R_new' (Kd.R_new' (Kd.R_newM (M := fun k_ => (w.heap.size ≤ k_)) ho0 (below_size bB) (fun k_ h_ => h_)) (Kd.R_lt (rK HO_7))) (Kd.R_lt (rK HO_9))) (Kd.R_lt (rK HO_11))) (below_size bB)); have n6_ := Aside0.mk (below_step bB hb); clear HO_2; clear HO_7; clear HO_9; clear HO_11; clear HO491; clear HB; have HO_2 := n0_; have HO_7 := n1_; have HO_9 := n2_; have HO_11 := n3_; have HO491 := n4_; have HO496 := n5_; have HB := n6_; clear n0_ n1_ n2_ n3_ n4_ n5_ n6_; (try clear hb); (try clear hb2); (try clear hk); (try clear hi); (try clear ho0)) | ((with_reducible refine gate_dst (N := 134) rfl ?_); (try (refine gate_guard (by rfl) ?_; dsimp only)); refine Kd.N_lit (Kd.slice 3 (Kd.int .i64)) _ 23 ?hg (N' := 134) ?hd (xs := ([l2] : List (List Int))) (inner := [.slice A2 l2.length c2]) (ok := (fun k_ => (P2_ k_ ∨ w.heap.size ≤ k_) ∧ some k_ ≠ (v462 : Value).ownBlock ∧ some k_ ≠ (v466 : Value).ownBlock ∧ some k_ ≠ (v470 : Value).ownBlock ∧ some k_ ≠ (.slice Ao75 y489.length co75 : Value).ownBlock ∧ some k_ ≠ (v495 : Value).ownBlock)) (okp := (fun k_ => (P2_ k_ ∨ w.heap.size ≤ k_) ∧ some k_ ≠ (v462 : Value).ownBlock ∧ some k_ ≠ (v466 : Value).ownBlock ∧ some k_ ≠ (v470 : Value).ownBlock ∧ some k_ ≠ (.slice Ao75 y489.length co75 : Value).ownBlock ∧ some k_ ≠ (v495 : Value).ownBlock)) ?hr ?hp (fun _ hk => hk) ((show ∀ k_, w76.heap.size ≤ k_ → (fun k_ => (P2_ k_ ∨ w.heap.size ≤ k_) ∧ some k_ ≠ (v462 : Value).ownBlock ∧ some k_ ≠ (v466 : Value).ownBlock ∧ some k_ ≠ (v470 : Value).ownBlock ∧ some k_ ≠ (.slice Ao75 y489.length co75 : Value).ownBlock ∧ some k_ ≠ (v495 : Value).ownBlock) k_ from fun k_ hk => ⟨(.inr (Nat.le_trans (below_size bB) hk)), Kd.fresh' (Kd.R_lt (rK HO_7)) k_ hk, Kd.fresh' (Kd.R_lt (rK HO_9)) k_ hk, Kd.fresh' (Kd.R_lt (rK HO_11)) k_ hk, Kd.fresh' (Kd.N_lt (nK HO491)) k_ hk, Kd.fresh' (Kd.R_lt (rK HO496)) k_ hk⟩) _ (Nat.le_refl _)) (Below.refl _ _) (Nat.le_refl _) (by simp) ?_; (case hd => rfl); (case hg => rfl); (case hr => first | (go_simp; done) | (go_simp; rfl)); (case hp => exact (Reps.one (show Kd.FK (Kd.slice 3 (Kd.int .i64)) _ _ l2 [.slice A2 l2.length c2] from (Kd.FK_slice_mk (Kd.V_reads' (Kd.V_mono (ok' := (fun k_ => (P2_ k_ ∨ w.heap.size ≤ k_) ∧ some k_ ≠ (v462 : Value).ownBlock ∧ some k_ ≠ (v466 : Value).ownBlock ∧ some k_ ≠ (v470 : Value).ownBlock ∧ some k_ ≠ (.slice Ao75 y489.length co75 : Value).ownBlock ∧ some k_ ≠ (v495 : Value).ownBlock)) (HO_2.out) (fun k_ hk => ⟨hk.1.1.1, ⟨hk.1.1.2.1, ⟨hk.1.1.2.2.1, ⟨hk.1.1.2.2.2, ⟨hk.1.2, hk.2⟩⟩⟩⟩⟩))).2.1 (Kd.V_F (Kd.V_mono (ok' := (fun k_ => (P2_ k_ ∨ w.heap.size ≤ k_) ∧ some k_ ≠ (v462 : Value).ownBlock ∧ some k_ ≠ (v466 : Value).ownBlock ∧ some k_ ≠ (v470 : Value).ownBlock ∧ some k_ ≠ (.slice Ao75 y489.length co75 : Value).ownBlock ∧ some k_ ≠ (v495 : Value).ownBlock)) (HO_2.out) (fun k_ hk => ⟨hk.1.1.1, ⟨hk.1.1.2.1, ⟨hk.1.1.2.2.1, ⟨hk.1.1.2.2.2, ⟨hk.1.2, hk.2⟩⟩⟩⟩⟩))))) (Reps.none _ _))); intro v498 w77 ho78 hb hg_ hnew_; clear hg_ hnew_; (first | rw [← Ny497.out] at ho78 | (simp only [Int.reduceToNat] at ho78; rw [← Ny497.out] at ho78)); have n0_ := Aside0.mk (Kd.V_elder' (by (with_reducible repeat (first | apply Kd.V_alloc | apply Kd.V_drewN | apply Kd.V_drew)); exact HO_2.out) (Kd.N_base ho78) hb); have n1_ := Aside0.mk (Kd.R_below (rK HO_7) hb); have n2_ := Aside0.mk (Kd.R_below (rK HO_9) hb); have n3_ := Aside0.mk (Kd.R_below (rK HO_11) hb); have n4_ := Aside0.mk (Kd.N_elder' (nK HO491) (Kd.N_base ho78) hb); have n5_ := Aside0.mk (Kd.R_below (rK HO496) hb); have n6_ := Aside0.mk (Kd.N_lower ho78 (below_size bB)); have n7_ := Aside0.mk (below_step bB hb); clear HO_2; clear HO_7; clear HO_9; clear HO_11; clear HO491; clear HO496; clear HB; have HO_2 := n0_; have HO_7 := n1_; have HO_9 := n2_; have HO_11 := n3_; have HO491 := n4_; have HO496 := n5_; have HO499 := n6_; have HB := n7_; clear n0_ n1_ n2_ n3_ n4_ n5_ n6_ n7_; clear hb ho78; have p500 : 0 ≤ (x13_2 : Int) := of_decide_eq_true aK; have q500 : x13_2 < (l1.length : Int) := of_decide_eq_true aK; obtain ⟨ad500, A500_0, c500_0, e500, hx500_0, hl500_0, hi500_0⟩ := at_L3 HR1.out x13_2 p500 q500; obtain rfl : ad479 = ad500 := (by injection e500); replace hx500_0 := (HB.out.cell (World.block_lt_of_cell? w _ hx500_0)).trans hx500_0; have HR500_0 := Aside0.mk hi500_0; have HC500_0 := Aside0.mk hl500_0; clear hi500_0 hl500_0; replace p500 := eq_true p500; replace q500 := eq_true q500; obtain ⟨Ao79, co79, eo79⟩ := Kd.N_slice HO499.out; subst eo79) | ((with_reducible refine gate_callee (f := 18) rfl ?_); refine goesL_ (some 139) rfl rfl Tryd.func18 (by kernel_rfl) rfl #[.slice A0 l0.length c0, .slice Ao79 y497.length co79, .slice A500_0 (rd_L3 l1 x13_2).length c500_0, .int .i64 0] rfl mA ?_; (with_reducible refine (path_Find.calls (hG := gK) kj37 _ _ l0 _ _ y497 _ _ (rd_L3 l1 x13_2) 0 t501 t502 _ ?side1 ?side2 ?side3 ?side4 ?side5 ?side6 A66.out).mono ?_); (case side1 => exact cK (Kd.C_below HR0.out HB.out)); (case side2 => exact HC0.out); (case side3 => exact cK ((Kd.N_reads' HO499.out).2.2)); (case side4 => exact (Kd.N_reads' HO499.out).2.1); (case side5 => exact cK (Kd.C_below HR500_0.out HB.out)); (case side6 => exact HC500_0.out); rintro e w80 ⟨v503, rfl, ho0, hb⟩; refine ⟨_, rfl, ?_⟩; have n0_ := Aside0.mk (Kd.V_elder' (by (with_reducible repeat (first | apply Kd.V_alloc | apply Kd.V_drewN | apply Kd.V_drew)); exact HO_2.out) (Kd.R_base ho0) hb); have n1_ := Aside0.mk (Kd.R_elder' (rK HO_7) (Kd.R_base ho0) hb); have n2_ := Aside0.mk (Kd.R_elder' (rK HO_9) (Kd.R_base ho0) hb); have n3_ := Aside0.mk (Kd.R_elder' (rK HO_11) (Kd.R_base ho0) hb); have n4_ := Aside0.mk (Kd.N_elder' (nK HO491) (Kd.R_base ho0) hb); have n5_ := Aside0.mk (Kd.R_elder' (rK HO496) (Kd.R_base ho0) hb); have n6_ := Aside0.mk (Kd.N_elder' (nK HO499) (Kd.R_base ho0) hb); have n7_ := Aside0.mk (Kd.R_lower (Kd.R_new' (Kd.R_new' (Kd.R_new' (Kd.R_new' (Kd.R_newM (M := fun k_ => (w.heap.size ≤ k_)) ho0 (below_size bB) (fun k_ h_ => h_)) (Kd.R_lt (rK HO_7))) (Kd.R_lt (rK HO_9))) (Kd.R_lt (rK HO_11))) (Kd.R_lt (rK HO496))) (below_size bB)); have n8_ := Aside0.mk (below_step bB hb); clear HO_2; clear HO_7; clear HO_9; clear HO_11; clear HO491; clear HO496; clear HO499; clear HB; have HO_2 := n0_; have HO_7 := n1_; have HO_9 := n2_; have HO_11 := n3_; have HO491 := n4_; have HO496 := n5_; have HO499 := n6_; have HO504 := n7_; have HB := n8_; clear n0_ n1_ n2_ n3_ n4_ n5_ n6_ n7_ n8_; (try clear hb); (try clear hb2); (try clear hk); (try clear hi); (try clear ho0)) | ((with_reducible refine gate_callee (f := 13) rfl ?_); refine goesL_ (some 143) rfl rfl Tryd.func13 (by kernel_rfl) rfl #[.int .i64 t494] rfl mA ?_; (with_reducible refine (quaerelaw0_Num.calls t494 t505 _ A67.out).mono ?_); rintro e w' ⟨rfl, ⟨nd, rfl⟩⟩; refine ⟨_, rfl, ?_⟩) | (go_at_call 13; (with_reducible refine (quaerelaw0_Num.calls t502 t506 _ A69.out).mono ?_); rintro e w' ⟨rfl, ⟨nd, rfl⟩⟩; obtain ⟨Ao81, co81, eo81⟩ := Kd.R_slice HO496.out; subst eo81; obtain ⟨Ao82, co82, eo82⟩ := Kd.R_slice HO_9.out; subst eo82) | (go_at_call 21; (with_reducible refine (quaerelaw12_among.calls kj37 _ _ t464 x13_2 t507 _ ?side1 ?side2 A71.out).mono ?_); (case side1 => exact cK ((Kd.R_reads' HO_9.out).2.2)); (case side2 => exact (Kd.R_reads' HO_9.out).2.1); rintro e w' ⟨rfl, ⟨nd, rfl⟩⟩))
                   go_ret
                   exact ⟨eK, bB⟩
                  ·rw [if_neg c72] at H
                   have c72b0 : (((t493.length : Int) == 1) != t507) = false := by simpa using c72
                   (try (have c72b1 : decide (((t493.length : Int) == 1) = t507) = true := by simpa using c72))
                   (try (have c72b2 : (((t493.length : Int) == 1) == t507) = true := by simpa using c72))
                   clear c72
                   replace H := Option.bind_eq_some_iff.mp H
                   obtain ⟨t508, A830, H⟩ := H
                   replace H : (if (((t501.length : Int) == 1) != t508) = true then (some false) else (quaerelaw12_PathWays.l0 kj37 l0 l1 l2 t460 t464 t468 (wrap64 (x13_2 + 1)))) = some r := H
                   have A83 := Aside0.mk A830
                   clear A830
                   by_cases c84 : (((t501.length : Int) == 1) != t508) = true
                   ·rw [if_pos c84] at H
                    have c84b0 : (((t501.length : Int) == 1) != t508) = true := c84
                    (try (have c84b1 : decide (((t501.length : Int) == 1) = t508) = false := by simpa using c84))
                    (try (have c84b2 : (((t501.length : Int) == 1) == t508) = false := by simpa using c84))
                    (try (have c84b3 : ¬ (((t501.length : Int) == 1) = t508) := by simpa using c84))
                    clear c84
                    obtain rfl := Option.some.inj H
                    go_wp2_with (first | ((with_reducible refine gate_dst (N := 123) rfl ?_); (try (refine gate_guard (by rfl) ?_; dsimp only)); refine Kd.N_lit (Kd.slice 3 (Kd.int .i64)) _ 23 ?hg (N' := 123) ?hd (xs := ([l2] : List (List Int))) (inner := [.slice A2 l2.length c2]) (ok := (fun k_ => (P2_ k_ ∨ w.heap.size ≤ k_) ∧ some k_ ≠ (v462 : Value).ownBlock ∧ some k_ ≠ (v466 : Value).ownBlock ∧ some k_ ≠ (v470 : Value).ownBlock)) (okp := (fun k_ => (P2_ k_ ∨ w.heap.size ≤ k_) ∧ some k_ ≠ (v462 : Value).ownBlock ∧ some k_ ≠ (v466 : Value).ownBlock ∧ some k_ ≠ (v470 : Value).ownBlock)) ?hr ?hp (fun _ hk => hk) ((show ∀ k_, wc.heap.size ≤ k_ → (fun k_ => (P2_ k_ ∨ w.heap.size ≤ k_) ∧ some k_ ≠ (v462 : Value).ownBlock ∧ some k_ ≠ (v466 : Value).ownBlock ∧ some k_ ≠ (v470 : Value).ownBlock) k_ from fun k_ hk => ⟨(.inr (Nat.le_trans (below_size bB) hk)), Kd.fresh' (Kd.R_lt (rK HO_7)) k_ hk, Kd.fresh' (Kd.R_lt (rK HO_9)) k_ hk, Kd.fresh' (Kd.R_lt (rK HO_11)) k_ hk⟩) _ (Nat.le_refl _)) (Below.refl _ _) (Nat.le_refl _) (by simp) ?_; (case hd => rfl); (case hg => rfl); (case hr => first | (go_simp; done) | (go_simp; rfl)); (case hp => exact (Reps.one (show Kd.FK (Kd.slice 3 (Kd.int .i64)) _ _ l2 [.slice A2 l2.length c2] from (Kd.FK_slice_mk (Kd.V_reads' (Kd.V_mono (ok' := (fun k_ => (P2_ k_ ∨ w.heap.size ≤ k_) ∧ some k_ ≠ (v462 : Value).ownBlock ∧ some k_ ≠ (v466 : Value).ownBlock ∧ some k_ ≠ (v470 : Value).ownBlock)) (HO_2.out) (fun k_ hk => ⟨hk.1, ⟨hk.2.1, ⟨hk.2.2.1, hk.2.2.2⟩⟩⟩))).2.1 (Kd.V_F (Kd.V_mono (ok' := (fun k_ => (P2_ k_ ∨ w.heap.size ≤ k_) ∧ some k_ ≠ (v462 : Value).ownBlock ∧ some k_ ≠ (v466 : Value).ownBlock ∧ some k_ ≠ (v470 : Value).ownBlock)) (HO_2.out) (fun k_ hk => ⟨hk.1, ⟨hk.2.1, ⟨hk.2.2.1, hk.2.2.2⟩⟩⟩))))) (Reps.none _ _))); intro v490 w85 ho86 hb hg_ hnew_; clear hg_ hnew_; (first | rw [← Ny489.out] at ho86 | (simp only [Int.reduceToNat] at ho86; rw [← Ny489.out] at ho86)); have n0_ := Aside0.mk (Kd.V_elder' (by (with_reducible repeat (first | apply Kd.V_alloc | apply Kd.V_drewN | apply Kd.V_drew)); exact HO_2.out) (Kd.N_base ho86) hb); have n1_ := Aside0.mk (Kd.R_below (rK HO_7) hb); have n2_ := Aside0.mk (Kd.R_below (rK HO_9) hb); have n3_ := Aside0.mk (Kd.R_below (rK HO_11) hb); have n4_ := Aside0.mk (Kd.N_lower ho86 (below_size bB)); have n5_ := Aside0.mk (below_step bB hb); clear HO_2; clear HO_7; clear HO_9; clear HO_11; clear HB; have HO_2 := n0_; have HO_7 := n1_; have HO_9 := n2_; have HO_11 := n3_; have HO491 := n4_; have HB := n5_; clear n0_ n1_ n2_ n3_ n4_ n5_; clear hb ho86; have p492 : 0 ≤ (x13_2 : Int) := of_decide_eq_true aK; have q492 : x13_2 < (l1.length : Int) := of_decide_eq_true aK; obtain ⟨ad492, A492_0, c492_0, e492, hx492_0, hl492_0, hi492_0⟩ := at_L3 HR1.out x13_2 p492 q492; obtain rfl : ad479 = ad492 := (by injection e492); replace hx492_0 := (HB.out.cell (World.block_lt_of_cell? w _ hx492_0)).trans hx492_0; have HR492_0 := Aside0.mk hi492_0; have HC492_0 := Aside0.mk hl492_0; clear hi492_0 hl492_0; replace p492 := eq_true p492; replace q492 := eq_true q492; obtain ⟨Ao87, co87, eo87⟩ := Kd.N_slice HO491.out; subst eo87) | ((with_reducible refine gate_callee (f := 18) rfl ?_); refine goesL_ (some 128) rfl rfl Tryd.func18 (by kernel_rfl) rfl #[.slice A0 l0.length c0, .slice Ao87 y489.length co87, .slice A492_0 (rd_L3 l1 x13_2).length c492_0, .int .i64 2] rfl mA ?_; (with_reducible refine (path_Find.calls (hG := gK) kj37 _ _ l0 _ _ y489 _ _ (rd_L3 l1 x13_2) 2 t493 t494 _ ?side1 ?side2 ?side3 ?side4 ?side5 ?side6 A65.out).mono ?_); (case side1 => exact cK (Kd.C_below HR0.out HB.out)); (case side2 => exact HC0.out); (case side3 => exact cK ((Kd.N_reads' HO491.out).2.2)); (case side4 => exact (Kd.N_reads' HO491.out).2.1); (case side5 => exact cK (Kd.C_below HR492_0.out HB.out)); (case side6 => exact HC492_0.out); rintro e w88 ⟨v495, rfl, ho0, hb⟩; refine ⟨_, rfl, ?_⟩; have n0_ := Aside0.mk (Kd.V_elder' (by (with_reducible repeat (first | apply Kd.V_alloc | apply Kd.V_drewN | apply Kd.V_drew)); exact HO_2.out) (Kd.R_base ho0) hb); have n1_ := Aside0.mk (Kd.R_elder' (rK HO_7) (Kd.R_base ho0) hb); have n2_ := Aside0.mk (Kd.R_elder' (rK HO_9) (Kd.R_base ho0) hb); have n3_ := Aside0.mk (Kd.R_elder' (rK HO_11) (Kd.R_base ho0) hb); have n4_ := Aside0.mk (Kd.N_elder' (nK HO491) (Kd.R_base ho0) hb); have n5_ := Aside0.mk (Kd.R_lower (Kd.R_new' (Kd.R_new' (Kd.R_new' (Kd.R_newM (M := fun k_ => (w.heap.size ≤ k_)) ho0 (below_size bB) (fun k_ h_ => h_)) (Kd.R_lt (rK HO_7))) (Kd.R_lt (rK HO_9))) (Kd.R_lt (rK HO_11))) (below_size bB)); have n6_ := Aside0.mk (below_step bB hb); clear HO_2; clear HO_7; clear HO_9; clear HO_11; clear HO491; clear HB; have HO_2 := n0_; have HO_7 := n1_; have HO_9 := n2_; have HO_11 := n3_; have HO491 := n4_; have HO496 := n5_; have HB := n6_; clear n0_ n1_ n2_ n3_ n4_ n5_ n6_; (try clear hb); (try clear hb2); (try clear hk); (try clear hi); (try clear ho0)) | ((with_reducible refine gate_dst (N := 134) rfl ?_); (try (refine gate_guard (by rfl) ?_; dsimp only)); refine Kd.N_lit (Kd.slice 3 (Kd.int .i64)) _ 23 ?hg (N' := 134) ?hd (xs := ([l2] : List (List Int))) (inner := [.slice A2 l2.length c2]) (ok := (fun k_ => (P2_ k_ ∨ w.heap.size ≤ k_) ∧ some k_ ≠ (v462 : Value).ownBlock ∧ some k_ ≠ (v466 : Value).ownBlock ∧ some k_ ≠ (v470 : Value).ownBlock ∧ some k_ ≠ (.slice Ao87 y489.length co87 : Value).ownBlock ∧ some k_ ≠ (v495 : Value).ownBlock)) (okp := (fun k_ => (P2_ k_ ∨ w.heap.size ≤ k_) ∧ some k_ ≠ (v462 : Value).ownBlock ∧ some k_ ≠ (v466 : Value).ownBlock ∧ some k_ ≠ (v470 : Value).ownBlock ∧ some k_ ≠ (.slice Ao87 y489.length co87 : Value).ownBlock ∧ some k_ ≠ (v495 : Value).ownBlock)) ?hr ?hp (fun _ hk => hk) ((show ∀ k_, w88.heap.size ≤ k_ → (fun k_ => (P2_ k_ ∨ w.heap.size ≤ k_) ∧ some k_ ≠ (v462 : Value).ownBlock ∧ some k_ ≠ (v466 : Value).ownBlock ∧ some k_ ≠ (v470 : Value).ownBlock ∧ some k_ ≠ (.slice Ao87 y489.length co87 : Value).ownBlock ∧ some k_ ≠ (v495 : Value).ownBlock) k_ from fun k_ hk => ⟨(.inr (Nat.le_trans (below_size bB) hk)), Kd.fresh' (Kd.R_lt (rK HO_7)) k_ hk, Kd.fresh' (Kd.R_lt (rK HO_9)) k_ hk, Kd.fresh' (Kd.R_lt (rK HO_11)) k_ hk, Kd.fresh' (Kd.N_lt (nK HO491)) k_ hk, Kd.fresh' (Kd.R_lt (rK HO496)) k_ hk⟩) _ (Nat.le_refl _)) (Below.refl _ _) (Nat.le_refl _) (by simp) ?_; (case hd => rfl); (case hg => rfl); (case hr => first | (go_simp; done) | (go_simp; rfl)); (case hp => exact (Reps.one (show Kd.FK (Kd.slice 3 (Kd.int .i64)) _ _ l2 [.slice A2 l2.length c2] from (Kd.FK_slice_mk (Kd.V_reads' (Kd.V_mono (ok' := (fun k_ => (P2_ k_ ∨ w.heap.size ≤ k_) ∧ some k_ ≠ (v462 : Value).ownBlock ∧ some k_ ≠ (v466 : Value).ownBlock ∧ some k_ ≠ (v470 : Value).ownBlock ∧ some k_ ≠ (.slice Ao87 y489.length co87 : Value).ownBlock ∧ some k_ ≠ (v495 : Value).ownBlock)) (HO_2.out) (fun k_ hk => ⟨hk.1.1.1, ⟨hk.1.1.2.1, ⟨hk.1.1.2.2.1, ⟨hk.1.1.2.2.2, ⟨hk.1.2, hk.2⟩⟩⟩⟩⟩))).2.1 (Kd.V_F (Kd.V_mono (ok' := (fun k_ => (P2_ k_ ∨ w.heap.size ≤ k_) ∧ some k_ ≠ (v462 : Value).ownBlock ∧ some k_ ≠ (v466 : Value).ownBlock ∧ some k_ ≠ (v470 : Value).ownBlock ∧ some k_ ≠ (.slice Ao87 y489.length co87 : Value).ownBlock ∧ some k_ ≠ (v495 : Value).ownBlock)) (HO_2.out) (fun k_ hk => ⟨hk.1.1.1, ⟨hk.1.1.2.1, ⟨hk.1.1.2.2.1, ⟨hk.1.1.2.2.2, ⟨hk.1.2, hk.2⟩⟩⟩⟩⟩))))) (Reps.none _ _))); intro v498 w89 ho90 hb hg_ hnew_; clear hg_ hnew_; (first | rw [← Ny497.out] at ho90 | (simp only [Int.reduceToNat] at ho90; rw [← Ny497.out] at ho90)); have n0_ := Aside0.mk (Kd.V_elder' (by (with_reducible repeat (first | apply Kd.V_alloc | apply Kd.V_drewN | apply Kd.V_drew)); exact HO_2.out) (Kd.N_base ho90) hb); have n1_ := Aside0.mk (Kd.R_below (rK HO_7) hb); have n2_ := Aside0.mk (Kd.R_below (rK HO_9) hb); have n3_ := Aside0.mk (Kd.R_below (rK HO_11) hb); have n4_ := Aside0.mk (Kd.N_elder' (nK HO491) (Kd.N_base ho90) hb); have n5_ := Aside0.mk (Kd.R_below (rK HO496) hb); have n6_ := Aside0.mk (Kd.N_lower ho90 (below_size bB)); have n7_ := Aside0.mk (below_step bB hb); clear HO_2; clear HO_7; clear HO_9; clear HO_11; clear HO491; clear HO496; clear HB; have HO_2 := n0_; have HO_7 := n1_; have HO_9 := n2_; have HO_11 := n3_; have HO491 := n4_; have HO496 := n5_; have HO499 := n6_; have HB := n7_; clear n0_ n1_ n2_ n3_ n4_ n5_ n6_ n7_; clear hb ho90; have p500 : 0 ≤ (x13_2 : Int) := of_decide_eq_true aK; have q500 : x13_2 < (l1.length : Int) := of_decide_eq_true aK; obtain ⟨ad500, A500_0, c500_0, e500, hx500_0, hl500_0, hi500_0⟩ := at_L3 HR1.out x13_2 p500 q500; obtain rfl : ad479 = ad500 := (by injection e500); replace hx500_0 := (HB.out.cell (World.block_lt_of_cell? w _ hx500_0)).trans hx500_0; have HR500_0 := Aside0.mk hi500_0; have HC500_0 := Aside0.mk hl500_0; clear hi500_0 hl500_0; replace p500 := eq_true p500; replace q500 := eq_true q500; obtain ⟨Ao91, co91, eo91⟩ := Kd.N_slice HO499.out; subst eo91) | ((with_reducible refine gate_callee (f := 18) rfl ?_); refine goesL_ (some 139) rfl rfl Tryd.func18 (by kernel_rfl) rfl #[.slice A0 l0.length c0, .slice Ao91 y497.length co91, .slice A500_0 (rd_L3 l1 x13_2).length c500_0, .int .i64 0] rfl mA ?_; (with_reducible refine (path_Find.calls (hG := gK) kj37 _ _ l0 _ _ y497 _ _ (rd_L3 l1 x13_2) 0 t501 t502 _ ?side1 ?side2 ?side3 ?side4 ?side5 ?side6 A66.out).mono ?_); (case side1 => exact cK (Kd.C_below HR0.out HB.out)); (case side2 => exact HC0.out); (case side3 => exact cK ((Kd.N_reads' HO499.out).2.2)); (case side4 => exact (Kd.N_reads' HO499.out).2.1); (case side5 => exact cK (Kd.C_below HR500_0.out HB.out)); (case side6 => exact HC500_0.out); rintro e w92 ⟨v503, rfl, ho0, hb⟩; refine ⟨_, rfl, ?_⟩; have n0_ := Aside0.mk (Kd.V_elder' (by (with_reducible repeat (first | apply Kd.V_alloc | apply Kd.V_drewN | apply Kd.V_drew)); exact HO_2.out) (Kd.R_base ho0) hb); have n1_ := Aside0.mk (Kd.R_elder' (rK HO_7) (Kd.R_base ho0) hb); have n2_ := Aside0.mk (Kd.R_elder' (rK HO_9) (Kd.R_base ho0) hb); have n3_ := Aside0.mk (Kd.R_elder' (rK HO_11) (Kd.R_base ho0) hb); have n4_ := Aside0.mk (Kd.N_elder' (nK HO491) (Kd.R_base ho0) hb); have n5_ := Aside0.mk (Kd.R_elder' (rK HO496) (Kd.R_base ho0) hb); have n6_ := Aside0.mk (Kd.N_elder' (nK HO499) (Kd.R_base ho0) hb); have n7_ := Aside0.mk (Kd.R_lower (Kd.R_new' (Kd.R_new' (Kd.R_new' (Kd.R_new' (Kd.R_newM (M := fun k_ => (w.heap.size ≤ k_)) ho0 (below_size bB) (fun k_ h_ => h_)) (Kd.R_lt (rK HO_7))) (Kd.R_lt (rK HO_9))) (Kd.R_lt (rK HO_11))) (Kd.R_lt (rK HO496))) (below_size bB)); have n8_ := Aside0.mk (below_step bB hb); clear HO_2; clear HO_7; clear HO_9; clear HO_11; clear HO491; clear HO496; clear HO499; clear HB; have HO_2 := n0_; have HO_7 := n1_; have HO_9 := n2_; have HO_11 := n3_; have HO491 := n4_; have HO496 := n5_; have HO499 := n6_; have HO504 := n7_; have HB := n8_; clear n0_ n1_ n2_ n3_ n4_ n5_ n6_ n7_ n8_; (try clear hb); (try clear hb2); (try clear hk); (try clear hi); (try clear ho0)) | ((with_reducible refine gate_callee (f := 13) rfl ?_); refine goesL_ (some 143) rfl rfl Tryd.func13 (by kernel_rfl) rfl #[.int .i64 t494] rfl mA ?_; (with_reducible refine (quaerelaw0_Num.calls t494 t505 _ A67.out).mono ?_); rintro e w' ⟨rfl, ⟨nd, rfl⟩⟩; refine ⟨_, rfl, ?_⟩) | (go_at_call 13; (with_reducible refine (quaerelaw0_Num.calls t502 t506 _ A69.out).mono ?_); rintro e w' ⟨rfl, ⟨nd, rfl⟩⟩; obtain ⟨Ao93, co93, eo93⟩ := Kd.R_slice HO496.out; subst eo93; obtain ⟨Ao94, co94, eo94⟩ := Kd.R_slice HO_9.out; subst eo94) | (go_at_call 21; (with_reducible refine (quaerelaw12_among.calls kj37 _ _ t464 x13_2 t507 _ ?side1 ?side2 A71.out).mono ?_); (case side1 => exact cK ((Kd.R_reads' HO_9.out).2.2)); (case side2 => exact (Kd.R_reads' HO_9.out).2.1); rintro e w' ⟨rfl, ⟨nd, rfl⟩⟩; obtain ⟨Ao95, co95, eo95⟩ := Kd.R_slice HO504.out; subst eo95; obtain ⟨Ao96, co96, eo96⟩ := Kd.R_slice HO_7.out; subst eo96) | (go_at_call 21; (with_reducible refine (quaerelaw12_among.calls kj37 _ _ t460 x13_2 t508 _ ?side1 ?side2 A83.out).mono ?_); (case side1 => exact cK ((Kd.R_reads' HO_7.out).2.2)); (case side2 => exact (Kd.R_reads' HO_7.out).2.1); rintro e w' ⟨rfl, ⟨nd, rfl⟩⟩))
                    go_ret
                    exact ⟨eK, bB⟩
                   ·rw [if_neg c84] at H
                    have c84b0 : (((t501.length : Int) == 1) != t508) = false := by simpa using c84
                    (try (have c84b1 : decide (((t501.length : Int) == 1) = t508) = true := by simpa using c84))
                    (try (have c84b2 : (((t501.length : Int) == 1) == t508) = true := by simpa using c84))
                    clear c84
                    have H' := Aside0.mk H
                    clear H
                    go_wp2_with (first | ((with_reducible refine gate_dst (N := 123) rfl ?_); (try (refine gate_guard (by rfl) ?_; dsimp only)); refine Kd.N_lit (Kd.slice 3 (Kd.int .i64)) _ 23 ?hg (N' := 123) ?hd (xs := ([l2] : List (List Int))) (inner := [.slice A2 l2.length c2]) (ok := (fun k_ => (P2_ k_ ∨ w.heap.size ≤ k_) ∧ some k_ ≠ (v462 : Value).ownBlock ∧ some k_ ≠ (v466 : Value).ownBlock ∧ some k_ ≠ (v470 : Value).ownBlock)) (okp := (fun k_ => (P2_ k_ ∨ w.heap.size ≤ k_) ∧ some k_ ≠ (v462 : Value).ownBlock ∧ some k_ ≠ (v466 : Value).ownBlock ∧ some k_ ≠ (v470 : Value).ownBlock)) ?hr ?hp (fun _ hk => hk) ((show ∀ k_, wc.heap.size ≤ k_ → (fun k_ => (P2_ k_ ∨ w.heap.size ≤ k_) ∧ some k_ ≠ (v462 : Value).ownBlock ∧ some k_ ≠ (v466 : Value).ownBlock ∧ some k_ ≠ (v470 : Value).ownBlock) k_ from fun k_ hk => ⟨(.inr (Nat.le_trans (below_size bB) hk)), Kd.fresh' (Kd.R_lt (rK HO_7)) k_ hk, Kd.fresh' (Kd.R_lt (rK HO_9)) k_ hk, Kd.fresh' (Kd.R_lt (rK HO_11)) k_ hk⟩) _ (Nat.le_refl _)) (Below.refl _ _) (Nat.le_refl _) (by simp) ?_; (case hd => rfl); (case hg => rfl); (case hr => first | (go_simp; done) | (go_simp; rfl)); (case hp => exact (Reps.one (show Kd.FK (Kd.slice 3 (Kd.int .i64)) _ _ l2 [.slice A2 l2.length c2] from (Kd.FK_slice_mk (Kd.V_reads' (Kd.V_mono (ok' := (fun k_ => (P2_ k_ ∨ w.heap.size ≤ k_) ∧ some k_ ≠ (v462 : Value).ownBlock ∧ some k_ ≠ (v466 : Value).ownBlock ∧ some k_ ≠ (v470 : Value).ownBlock)) (HO_2.out) (fun k_ hk => ⟨hk.1, ⟨hk.2.1, ⟨hk.2.2.1, hk.2.2.2⟩⟩⟩))).2.1 (Kd.V_F (Kd.V_mono (ok' := (fun k_ => (P2_ k_ ∨ w.heap.size ≤ k_) ∧ some k_ ≠ (v462 : Value).ownBlock ∧ some k_ ≠ (v466 : Value).ownBlock ∧ some k_ ≠ (v470 : Value).ownBlock)) (HO_2.out) (fun k_ hk => ⟨hk.1, ⟨hk.2.1, ⟨hk.2.2.1, hk.2.2.2⟩⟩⟩))))) (Reps.none _ _))); intro v490 w97 ho98 hb hg_ hnew_; clear hg_ hnew_; (first | rw [← Ny489.out] at ho98 | (simp only [Int.reduceToNat] at ho98; rw [← Ny489.out] at ho98)); have n0_ := Aside0.mk (Kd.V_elder' (by (with_reducible repeat (first | apply Kd.V_alloc | apply Kd.V_drewN | apply Kd.V_drew)); exact HO_2.out) (Kd.N_base ho98) hb); have n1_ := Aside0.mk (Kd.R_below (rK HO_7) hb); have n2_ := Aside0.mk (Kd.R_below (rK HO_9) hb); have n3_ := Aside0.mk (Kd.R_below (rK HO_11) hb); have n4_ := Aside0.mk (Kd.N_lower ho98 (below_size bB)); have n5_ := Aside0.mk (below_step bB hb); clear HO_2; clear HO_7; clear HO_9; clear HO_11; clear HB; have HO_2 := n0_; have HO_7 := n1_; have HO_9 := n2_; have HO_11 := n3_; have HO491 := n4_; have HB := n5_; clear n0_ n1_ n2_ n3_ n4_ n5_; clear hb ho98; have p492 : 0 ≤ (x13_2 : Int) := of_decide_eq_true aK; have q492 : x13_2 < (l1.length : Int) := of_decide_eq_true aK; obtain ⟨ad492, A492_0, c492_0, e492, hx492_0, hl492_0, hi492_0⟩ := at_L3 HR1.out x13_2 p492 q492; obtain rfl : ad479 = ad492 := (by injection e492); replace hx492_0 := (HB.out.cell (World.block_lt_of_cell? w _ hx492_0)).trans hx492_0; have HR492_0 := Aside0.mk hi492_0; have HC492_0 := Aside0.mk hl492_0; clear hi492_0 hl492_0; replace p492 := eq_true p492; replace q492 := eq_true q492; obtain ⟨Ao99, co99, eo99⟩ := Kd.N_slice HO491.out; subst eo99) | ((with_reducible refine gate_callee (f := 18) rfl ?_); refine goesL_ (some 128) rfl rfl Tryd.func18 (by kernel_rfl) rfl #[.slice A0 l0.length c0, .slice Ao99 y489.length co99, .slice A492_0 (rd_L3 l1 x13_2).length c492_0, .int .i64 2] rfl mA ?_; (with_reducible refine (path_Find.calls (hG := gK) kj37 _ _ l0 _ _ y489 _ _ (rd_L3 l1 x13_2) 2 t493 t494 _ ?side1 ?side2 ?side3 ?side4 ?side5 ?side6 A65.out).mono ?_); (case side1 => exact cK (Kd.C_below HR0.out HB.out)); (case side2 => exact HC0.out); (case side3 => exact cK ((Kd.N_reads' HO491.out).2.2)); (case side4 => exact (Kd.N_reads' HO491.out).2.1); (case side5 => exact cK (Kd.C_below HR492_0.out HB.out)); (case side6 => exact HC492_0.out); rintro e w100 ⟨v495, rfl, ho0, hb⟩; refine ⟨_, rfl, ?_⟩; have n0_ := Aside0.mk (Kd.V_elder' (by (with_reducible repeat (first | apply Kd.V_alloc | apply Kd.V_drewN | apply Kd.V_drew)); exact HO_2.out) (Kd.R_base ho0) hb); have n1_ := Aside0.mk (Kd.R_elder' (rK HO_7) (Kd.R_base ho0) hb); have n2_ := Aside0.mk (Kd.R_elder' (rK HO_9) (Kd.R_base ho0) hb); have n3_ := Aside0.mk (Kd.R_elder' (rK HO_11) (Kd.R_base ho0) hb); have n4_ := Aside0.mk (Kd.N_elder' (nK HO491) (Kd.R_base ho0) hb); have n5_ := Aside0.mk (Kd.R_lower (Kd.R_new' (Kd.R_new' (Kd.R_new' (Kd.R_newM (M := fun k_ => (w.heap.size ≤ k_)) ho0 (below_size bB) (fun k_ h_ => h_)) (Kd.R_lt (rK HO_7))) (Kd.R_lt (rK HO_9))) (Kd.R_lt (rK HO_11))) (below_size bB)); have n6_ := Aside0.mk (below_step bB hb); clear HO_2; clear HO_7; clear HO_9; clear HO_11; clear HO491; clear HB; have HO_2 := n0_; have HO_7 := n1_; have HO_9 := n2_; have HO_11 := n3_; have HO491 := n4_; have HO496 := n5_; have HB := n6_; clear n0_ n1_ n2_ n3_ n4_ n5_ n6_; (try clear hb); (try clear hb2); (try clear hk); (try clear hi); (try clear ho0)) | ((with_reducible refine gate_dst (N := 134) rfl ?_); (try (refine gate_guard (by rfl) ?_; dsimp only)); refine Kd.N_lit (Kd.slice 3 (Kd.int .i64)) _ 23 ?hg (N' := 134) ?hd (xs := ([l2] : List (List Int))) (inner := [.slice A2 l2.length c2]) (ok := (fun k_ => (P2_ k_ ∨ w.heap.size ≤ k_) ∧ some k_ ≠ (v462 : Value).ownBlock ∧ some k_ ≠ (v466 : Value).ownBlock ∧ some k_ ≠ (v470 : Value).ownBlock ∧ some k_ ≠ (.slice Ao99 y489.length co99 : Value).ownBlock ∧ some k_ ≠ (v495 : Value).ownBlock)) (okp := (fun k_ => (P2_ k_ ∨ w.heap.size ≤ k_) ∧ some k_ ≠ (v462 : Value).ownBlock ∧ some k_ ≠ (v466 : Value).ownBlock ∧ some k_ ≠ (v470 : Value).ownBlock ∧ some k_ ≠ (.slice Ao99 y489.length co99 : Value).ownBlock ∧ some k_ ≠ (v495 : Value).ownBlock)) ?hr ?hp (fun _ hk => hk) ((show ∀ k_, w100.heap.size ≤ k_ → (fun k_ => (P2_ k_ ∨ w.heap.size ≤ k_) ∧ some k_ ≠ (v462 : Value).ownBlock ∧ some k_ ≠ (v466 : Value).ownBlock ∧ some k_ ≠ (v470 : Value).ownBlock ∧ some k_ ≠ (.slice Ao99 y489.length co99 : Value).ownBlock ∧ some k_ ≠ (v495 : Value).ownBlock) k_ from fun k_ hk => ⟨(.inr (Nat.le_trans (below_size bB) hk)), Kd.fresh' (Kd.R_lt (rK HO_7)) k_ hk, Kd.fresh' (Kd.R_lt (rK HO_9)) k_ hk, Kd.fresh' (Kd.R_lt (rK HO_11)) k_ hk, Kd.fresh' (Kd.N_lt (nK HO491)) k_ hk, Kd.fresh' (Kd.R_lt (rK HO496)) k_ hk⟩) _ (Nat.le_refl _)) (Below.refl _ _) (Nat.le_refl _) (by simp) ?_; (case hd => rfl); (case hg => rfl); (case hr => first | (go_simp; done) | (go_simp; rfl)); (case hp => exact (Reps.one (show Kd.FK (Kd.slice 3 (Kd.int .i64)) _ _ l2 [.slice A2 l2.length c2] from (Kd.FK_slice_mk (Kd.V_reads' (Kd.V_mono (ok' := (fun k_ => (P2_ k_ ∨ w.heap.size ≤ k_) ∧ some k_ ≠ (v462 : Value).ownBlock ∧ some k_ ≠ (v466 : Value).ownBlock ∧ some k_ ≠ (v470 : Value).ownBlock ∧ some k_ ≠ (.slice Ao99 y489.length co99 : Value).ownBlock ∧ some k_ ≠ (v495 : Value).ownBlock)) (HO_2.out) (fun k_ hk => ⟨hk.1.1.1, ⟨hk.1.1.2.1, ⟨hk.1.1.2.2.1, ⟨hk.1.1.2.2.2, ⟨hk.1.2, hk.2⟩⟩⟩⟩⟩))).2.1 (Kd.V_F (Kd.V_mono (ok' := (fun k_ => (P2_ k_ ∨ w.heap.size ≤ k_) ∧ some k_ ≠ (v462 : Value).ownBlock ∧ some k_ ≠ (v466 : Value).ownBlock ∧ some k_ ≠ (v470 : Value).ownBlock ∧ some k_ ≠ (.slice Ao99 y489.length co99 : Value).ownBlock ∧ some k_ ≠ (v495 : Value).ownBlock)) (HO_2.out) (fun k_ hk => ⟨hk.1.1.1, ⟨hk.1.1.2.1, ⟨hk.1.1.2.2.1, ⟨hk.1.1.2.2.2, ⟨hk.1.2, hk.2⟩⟩⟩⟩⟩))))) (Reps.none _ _))); intro v498 w101 ho102 hb hg_ hnew_; clear hg_ hnew_; (first | rw [← Ny497.out] at ho102 | (simp only [Int.reduceToNat] at ho102; rw [← Ny497.out] at ho102)); have n0_ := Aside0.mk (Kd.V_elder' (by (with_reducible repeat (first | apply Kd.V_alloc | apply Kd.V_drewN | apply Kd.V_drew)); exact HO_2.out) (Kd.N_base ho102) hb); have n1_ := Aside0.mk (Kd.R_below (rK HO_7) hb); have n2_ := Aside0.mk (Kd.R_below (rK HO_9) hb); have n3_ := Aside0.mk (Kd.R_below (rK HO_11) hb); have n4_ := Aside0.mk (Kd.N_elder' (nK HO491) (Kd.N_base ho102) hb); have n5_ := Aside0.mk (Kd.R_below (rK HO496) hb); have n6_ := Aside0.mk (Kd.N_lower ho102 (below_size bB)); have n7_ := Aside0.mk (below_step bB hb); clear HO_2; clear HO_7; clear HO_9; clear HO_11; clear HO491; clear HO496; clear HB; have HO_2 := n0_; have HO_7 := n1_; have HO_9 := n2_; have HO_11 := n3_; have HO491 := n4_; have HO496 := n5_; have HO499 := n6_; have HB := n7_; clear n0_ n1_ n2_ n3_ n4_ n5_ n6_ n7_; clear hb ho102; have p500 : 0 ≤ (x13_2 : Int) := of_decide_eq_true aK; have q500 : x13_2 < (l1.length : Int) := of_decide_eq_true aK; obtain ⟨ad500, A500_0, c500_0, e500, hx500_0, hl500_0, hi500_0⟩ := at_L3 HR1.out x13_2 p500 q500; obtain rfl : ad479 = ad500 := (by injection e500); replace hx500_0 := (HB.out.cell (World.block_lt_of_cell? w _ hx500_0)).trans hx500_0; have HR500_0 := Aside0.mk hi500_0; have HC500_0 := Aside0.mk hl500_0; clear hi500_0 hl500_0; replace p500 := eq_true p500; replace q500 := eq_true q500; obtain ⟨Ao103, co103, eo103⟩ := Kd.N_slice HO499.out; subst eo103) | ((with_reducible refine gate_callee (f := 18) rfl ?_); refine goesL_ (some 139) rfl rfl Tryd.func18 (by kernel_rfl) rfl #[.slice A0 l0.length c0, .slice Ao103 y497.length co103, .slice A500_0 (rd_L3 l1 x13_2).length c500_0, .int .i64 0] rfl mA ?_; (with_reducible refine (path_Find.calls (hG := gK) kj37 _ _ l0 _ _ y497 _ _ (rd_L3 l1 x13_2) 0 t501 t502 _ ?side1 ?side2 ?side3 ?side4 ?side5 ?side6 A66.out).mono ?_); (case side1 => exact cK (Kd.C_below HR0.out HB.out)); (case side2 => exact HC0.out); (case side3 => exact cK ((Kd.N_reads' HO499.out).2.2)); (case side4 => exact (Kd.N_reads' HO499.out).2.1); (case side5 => exact cK (Kd.C_below HR500_0.out HB.out)); (case side6 => exact HC500_0.out); rintro e w104 ⟨v503, rfl, ho0, hb⟩; refine ⟨_, rfl, ?_⟩; have n0_ := Aside0.mk (Kd.V_elder' (by (with_reducible repeat (first | apply Kd.V_alloc | apply Kd.V_drewN | apply Kd.V_drew)); exact HO_2.out) (Kd.R_base ho0) hb); have n1_ := Aside0.mk (Kd.R_elder' (rK HO_7) (Kd.R_base ho0) hb); have n2_ := Aside0.mk (Kd.R_elder' (rK HO_9) (Kd.R_base ho0) hb); have n3_ := Aside0.mk (Kd.R_elder' (rK HO_11) (Kd.R_base ho0) hb); have n4_ := Aside0.mk (Kd.N_elder' (nK HO491) (Kd.R_base ho0) hb); have n5_ := Aside0.mk (Kd.R_elder' (rK HO496) (Kd.R_base ho0) hb); have n6_ := Aside0.mk (Kd.N_elder' (nK HO499) (Kd.R_base ho0) hb); have n7_ := Aside0.mk (Kd.R_lower (Kd.R_new' (Kd.R_new' (Kd.R_new' (Kd.R_new' (Kd.R_newM (M := fun k_ => (w.heap.size ≤ k_)) ho0 (below_size bB) (fun k_ h_ => h_)) (Kd.R_lt (rK HO_7))) (Kd.R_lt (rK HO_9))) (Kd.R_lt (rK HO_11))) (Kd.R_lt (rK HO496))) (below_size bB)); have n8_ := Aside0.mk (below_step bB hb); clear HO_2; clear HO_7; clear HO_9; clear HO_11; clear HO491; clear HO496; clear HO499; clear HB; have HO_2 := n0_; have HO_7 := n1_; have HO_9 := n2_; have HO_11 := n3_; have HO491 := n4_; have HO496 := n5_; have HO499 := n6_; have HO504 := n7_; have HB := n8_; clear n0_ n1_ n2_ n3_ n4_ n5_ n6_ n7_ n8_; (try clear hb); (try clear hb2); (try clear hk); (try clear hi); (try clear ho0)) | ((with_reducible refine gate_callee (f := 13) rfl ?_); refine goesL_ (some 143) rfl rfl Tryd.func13 (by kernel_rfl) rfl #[.int .i64 t494] rfl mA ?_; (with_reducible refine (quaerelaw0_Num.calls t494 t505 _ A67.out).mono ?_); rintro e w' ⟨rfl, ⟨nd, rfl⟩⟩; refine ⟨_, rfl, ?_⟩) | (go_at_call 13; (with_reducible refine (quaerelaw0_Num.calls t502 t506 _ A69.out).mono ?_); rintro e w' ⟨rfl, ⟨nd, rfl⟩⟩; obtain ⟨Ao105, co105, eo105⟩ := Kd.R_slice HO496.out; subst eo105; obtain ⟨Ao106, co106, eo106⟩ := Kd.R_slice HO_9.out; subst eo106) | (go_at_call 21; (with_reducible refine (quaerelaw12_among.calls kj37 _ _ t464 x13_2 t507 _ ?side1 ?side2 A71.out).mono ?_); (case side1 => exact cK ((Kd.R_reads' HO_9.out).2.2)); (case side2 => exact (Kd.R_reads' HO_9.out).2.1); rintro e w' ⟨rfl, ⟨nd, rfl⟩⟩; obtain ⟨Ao107, co107, eo107⟩ := Kd.R_slice HO504.out; subst eo107; obtain ⟨Ao108, co108, eo108⟩ := Kd.R_slice HO_7.out; subst eo108) | (go_at_call 21; (with_reducible refine (quaerelaw12_among.calls kj37 _ _ t460 x13_2 t508 _ ?side1 ?side2 A83.out).mono ?_); (case side1 => exact cK ((Kd.R_reads' HO_7.out).2.2)); (case side2 => exact (Kd.R_reads' HO_7.out).2.1); rintro e w' ⟨rfl, ⟨nd, rfl⟩⟩))
                    go_roundg kj37
                    case measure => have := HJ10.out; have := HK2.out; have := HJ37.out; omega
                    case rel => exact ⟨(wrap64 (x13_2 + 1)), sK, H', ⟨by have := HJ10.out; have := HK2.out; have := HJ37.out; omega⟩, ⟨by (with_reducible repeat (first | apply Kd.V_alloc | apply Kd.V_drewN | apply Kd.V_drew)); exact Kd.V_mono HO_2.out (fun _ hk => ⟨hk.1.1.1.1.1, ⟨hk.1.1.1.1.2.1, ⟨hk.1.1.1.1.2.2.1, hk.1.1.1.1.2.2.2⟩⟩⟩)⟩, ⟨by (with_reducible repeat (first | apply Kd.R_alloc | apply Kd.R_drewN | apply Kd.R_drew)); exact Kd.R_mono HO_7.out (fun _ hk => ⟨hk.1.1.1, ⟨hk.1.1.2.1, hk.1.1.2.2⟩⟩)⟩, ⟨by (with_reducible repeat (first | apply Kd.R_alloc | apply Kd.R_drewN | apply Kd.R_drew)); exact Kd.R_mono HO_9.out (fun _ hk => ⟨hk.1.1.1, ⟨hk.1.1.2.1, hk.1.1.2.2⟩⟩)⟩, ⟨by (with_reducible repeat (first | apply Kd.R_alloc | apply Kd.R_drewN | apply Kd.R_drew)); exact Kd.R_mono HO_11.out (fun _ hk => ⟨hk.1.1.1, ⟨hk.1.1.2.1, hk.1.1.2.2⟩⟩)⟩, ⟨bB⟩⟩
                 ·rw [if_neg c70] at H
                  have c70b0 : (t506 == 0) = false := beq_eq_false_iff_ne.mpr c70
                  have c70b1 : (t506 != 0) = true := bne_iff_ne.mpr c70
                  obtain rfl := Option.some.inj H
                  go_wp2_with (first | ((with_reducible refine gate_dst (N := 123) rfl ?_); (try (refine gate_guard (by rfl) ?_; dsimp only)); refine Kd.N_lit (Kd.slice 3 (Kd.int .i64)) _ 23 ?hg (N' := 123) ?hd (xs := ([l2] : List (List Int))) (inner := [.slice A2 l2.length c2]) (ok := (fun k_ => (P2_ k_ ∨ w.heap.size ≤ k_) ∧ some k_ ≠ (v462 : Value).ownBlock ∧ some k_ ≠ (v466 : Value).ownBlock ∧ some k_ ≠ (v470 : Value).ownBlock)) (okp := (fun k_ => (P2_ k_ ∨ w.heap.size ≤ k_) ∧ some k_ ≠ (v462 : Value).ownBlock ∧ some k_ ≠ (v466 : Value).ownBlock ∧ some k_ ≠ (v470 : Value).ownBlock)) ?hr ?hp (fun _ hk => hk) ((show ∀ k_, wc.heap.size ≤ k_ → (fun k_ => (P2_ k_ ∨ w.heap.size ≤ k_) ∧ some k_ ≠ (v462 : Value).ownBlock ∧ some k_ ≠ (v466 : Value).ownBlock ∧ some k_ ≠ (v470 : Value).ownBlock) k_ from fun k_ hk => ⟨(.inr (Nat.le_trans (below_size bB) hk)), Kd.fresh' (Kd.R_lt (rK HO_7)) k_ hk, Kd.fresh' (Kd.R_lt (rK HO_9)) k_ hk, Kd.fresh' (Kd.R_lt (rK HO_11)) k_ hk⟩) _ (Nat.le_refl _)) (Below.refl _ _) (Nat.le_refl _) (by simp) ?_; (case hd => rfl); (case hg => rfl); (case hr => first | (go_simp; done) | (go_simp; rfl)); (case hp => exact (Reps.one (show Kd.FK (Kd.slice 3 (Kd.int .i64)) _ _ l2 [.slice A2 l2.length c2] from (Kd.FK_slice_mk (Kd.V_reads' (Kd.V_mono (ok' := (fun k_ => (P2_ k_ ∨ w.heap.size ≤ k_) ∧ some k_ ≠ (v462 : Value).ownBlock ∧ some k_ ≠ (v466 : Value).ownBlock ∧ some k_ ≠ (v470 : Value).ownBlock)) (HO_2.out) (fun k_ hk => ⟨hk.1, ⟨hk.2.1, ⟨hk.2.2.1, hk.2.2.2⟩⟩⟩))).2.1 (Kd.V_F (Kd.V_mono (ok' := (fun k_ => (P2_ k_ ∨ w.heap.size ≤ k_) ∧ some k_ ≠ (v462 : Value).ownBlock ∧ some k_ ≠ (v466 : Value).ownBlock ∧ some k_ ≠ (v470 : Value).ownBlock)) (HO_2.out) (fun k_ hk => ⟨hk.1, ⟨hk.2.1, ⟨hk.2.2.1, hk.2.2.2⟩⟩⟩))))) (Reps.none _ _))); intro v490 w109 ho110 hb hg_ hnew_; clear hg_ hnew_; (first | rw [← Ny489.out] at ho110 | (simp only [Int.reduceToNat] at ho110; rw [← Ny489.out] at ho110)); have n0_ := Aside0.mk (Kd.V_elder' (by (with_reducible repeat (first | apply Kd.V_alloc | apply Kd.V_drewN | apply Kd.V_drew)); exact HO_2.out) (Kd.N_base ho110) hb); have n1_ := Aside0.mk (Kd.R_below (rK HO_7) hb); have n2_ := Aside0.mk (Kd.R_below (rK HO_9) hb); have n3_ := Aside0.mk (Kd.R_below (rK HO_11) hb); have n4_ := Aside0.mk (Kd.N_lower ho110 (below_size bB)); have n5_ := Aside0.mk (below_step bB hb); clear HO_2; clear HO_7; clear HO_9; clear HO_11; clear HB; have HO_2 := n0_; have HO_7 := n1_; have HO_9 := n2_; have HO_11 := n3_; have HO491 := n4_; have HB := n5_; clear n0_ n1_ n2_ n3_ n4_ n5_; clear hb ho110; have p492 : 0 ≤ (x13_2 : Int) := of_decide_eq_true aK; have q492 : x13_2 < (l1.length : Int) := of_decide_eq_true aK; obtain ⟨ad492, A492_0, c492_0, e492, hx492_0, hl492_0, hi492_0⟩ := at_L3 HR1.out x13_2 p492 q492; obtain rfl : ad479 = ad492 := (by injection e492); replace hx492_0 := (HB.out.cell (World.block_lt_of_cell? w _ hx492_0)).trans hx492_0; have HR492_0 := Aside0.mk hi492_0; have HC492_0 := Aside0.mk hl492_0; clear hi492_0 hl492_0; replace p492 := eq_true p492; replace q492 := eq_true q492; obtain ⟨Ao111, co111, eo111⟩ := Kd.N_slice HO491.out; subst eo111) | ((with_reducible refine gate_callee (f := 18) rfl ?_); refine goesL_ (some 128) rfl rfl Tryd.func18 (by kernel_rfl) rfl #[.slice A0 l0.length c0, .slice Ao111 y489.length co111, .slice A492_0 (rd_L3 l1 x13_2).length c492_0, .int .i64 2] rfl mA ?_; (with_reducible refine (path_Find.calls (hG := gK) kj37 _ _ l0 _ _ y489 _ _ (rd_L3 l1 x13_2) 2 t493 t494 _ ?side1 ?side2 ?side3 ?side4 ?side5 ?side6 A65.out).mono ?_); (case side1 => exact cK (Kd.C_below HR0.out HB.out)); (case side2 => exact HC0.out); (case side3 => exact cK ((Kd.N_reads' HO491.out).2.2)); (case side4 => exact (Kd.N_reads' HO491.out).2.1); (case side5 => exact cK (Kd.C_below HR492_0.out HB.out)); (case side6 => exact HC492_0.out); rintro e w112 ⟨v495, rfl, ho0, hb⟩; refine ⟨_, rfl, ?_⟩; have n0_ := Aside0.mk (Kd.V_elder' (by (with_reducible repeat (first | apply Kd.V_alloc | apply Kd.V_drewN | apply Kd.V_drew)); exact HO_2.out) (Kd.R_base ho0) hb); have n1_ := Aside0.mk (Kd.R_elder' (rK HO_7) (Kd.R_base ho0) hb); have n2_ := Aside0.mk (Kd.R_elder' (rK HO_9) (Kd.R_base ho0) hb); have n3_ := Aside0.mk (Kd.R_elder' (rK HO_11) (Kd.R_base ho0) hb); have n4_ := Aside0.mk (Kd.N_elder' (nK HO491) (Kd.R_base ho0) hb); have n5_ := Aside0.mk (Kd.R_lower (Kd.R_new' (Kd.R_new' (Kd.R_new' (Kd.R_newM (M := fun k_ => (w.heap.size ≤ k_)) ho0 (below_size bB) (fun k_ h_ => h_)) (Kd.R_lt (rK HO_7))) (Kd.R_lt (rK HO_9))) (Kd.R_lt (rK HO_11))) (below_size bB)); have n6_ := Aside0.mk (below_step bB hb); clear HO_2; clear HO_7; clear HO_9; clear HO_11; clear HO491; clear HB; have HO_2 := n0_; have HO_7 := n1_; have HO_9 := n2_; have HO_11 := n3_; have HO491 := n4_; have HO496 := n5_; have HB := n6_; clear n0_ n1_ n2_ n3_ n4_ n5_ n6_; (try clear hb); (try clear hb2); (try clear hk); (try clear hi); (try clear ho0)) | ((with_reducible refine gate_dst (N := 134) rfl ?_); (try (refine gate_guard (by rfl) ?_; dsimp only)); refine Kd.N_lit (Kd.slice 3 (Kd.int .i64)) _ 23 ?hg (N' := 134) ?hd (xs := ([l2] : List (List Int))) (inner := [.slice A2 l2.length c2]) (ok := (fun k_ => (P2_ k_ ∨ w.heap.size ≤ k_) ∧ some k_ ≠ (v462 : Value).ownBlock ∧ some k_ ≠ (v466 : Value).ownBlock ∧ some k_ ≠ (v470 : Value).ownBlock ∧ some k_ ≠ (.slice Ao111 y489.length co111 : Value).ownBlock ∧ some k_ ≠ (v495 : Value).ownBlock)) (okp := (fun k_ => (P2_ k_ ∨ w.heap.size ≤ k_) ∧ some k_ ≠ (v462 : Value).ownBlock ∧ some k_ ≠ (v466 : Value).ownBlock ∧ some k_ ≠ (v470 : Value).ownBlock ∧ some k_ ≠ (.slice Ao111 y489.length co111 : Value).ownBlock ∧ some k_ ≠ (v495 : Value).ownBlock)) ?hr ?hp (fun _ hk => hk) ((show ∀ k_, w112.heap.size ≤ k_ → (fun k_ => (P2_ k_ ∨ w.heap.size ≤ k_) ∧ some k_ ≠ (v462 : Value).ownBlock ∧ some k_ ≠ (v466 : Value).ownBlock ∧ some k_ ≠ (v470 : Value).ownBlock ∧ some k_ ≠ (.slice Ao111 y489.length co111 : Value).ownBlock ∧ some k_ ≠ (v495 : Value).ownBlock) k_ from fun k_ hk => ⟨(.inr (Nat.le_trans (below_size bB) hk)), Kd.fresh' (Kd.R_lt (rK HO_7)) k_ hk, Kd.fresh' (Kd.R_lt (rK HO_9)) k_ hk, Kd.fresh' (Kd.R_lt (rK HO_11)) k_ hk, Kd.fresh' (Kd.N_lt (nK HO491)) k_ hk, Kd.fresh' (Kd.R_lt (rK HO496)) k_ hk⟩) _ (Nat.le_refl _)) (Below.refl _ _) (Nat.le_refl _) (by simp) ?_; (case hd => rfl); (case hg => rfl); (case hr => first | (go_simp; done) | (go_simp; rfl)); (case hp => exact (Reps.one (show Kd.FK (Kd.slice 3 (Kd.int .i64)) _ _ l2 [.slice A2 l2.length c2] from (Kd.FK_slice_mk (Kd.V_reads' (Kd.V_mono (ok' := (fun k_ => (P2_ k_ ∨ w.heap.size ≤ k_) ∧ some k_ ≠ (v462 : Value).ownBlock ∧ some k_ ≠ (v466 : Value).ownBlock ∧ some k_ ≠ (v470 : Value).ownBlock ∧ some k_ ≠ (.slice Ao111 y489.length co111 : Value).ownBlock ∧ some k_ ≠ (v495 : Value).ownBlock)) (HO_2.out) (fun k_ hk => ⟨hk.1.1.1, ⟨hk.1.1.2.1, ⟨hk.1.1.2.2.1, ⟨hk.1.1.2.2.2, ⟨hk.1.2, hk.2⟩⟩⟩⟩⟩))).2.1 (Kd.V_F (Kd.V_mono (ok' := (fun k_ => (P2_ k_ ∨ w.heap.size ≤ k_) ∧ some k_ ≠ (v462 : Value).ownBlock ∧ some k_ ≠ (v466 : Value).ownBlock ∧ some k_ ≠ (v470 : Value).ownBlock ∧ some k_ ≠ (.slice Ao111 y489.length co111 : Value).ownBlock ∧ some k_ ≠ (v495 : Value).ownBlock)) (HO_2.out) (fun k_ hk => ⟨hk.1.1.1, ⟨hk.1.1.2.1, ⟨hk.1.1.2.2.1, ⟨hk.1.1.2.2.2, ⟨hk.1.2, hk.2⟩⟩⟩⟩⟩))))) (Reps.none _ _))); intro v498 w113 ho114 hb hg_ hnew_; clear hg_ hnew_; (first | rw [← Ny497.out] at ho114 | (simp only [Int.reduceToNat] at ho114; rw [← Ny497.out] at ho114)); have n0_ := Aside0.mk (Kd.V_elder' (by (with_reducible repeat (first | apply Kd.V_alloc | apply Kd.V_drewN | apply Kd.V_drew)); exact HO_2.out) (Kd.N_base ho114) hb); have n1_ := Aside0.mk (Kd.R_below (rK HO_7) hb); have n2_ := Aside0.mk (Kd.R_below (rK HO_9) hb); have n3_ := Aside0.mk (Kd.R_below (rK HO_11) hb); have n4_ := Aside0.mk (Kd.N_elder' (nK HO491) (Kd.N_base ho114) hb); have n5_ := Aside0.mk (Kd.R_below (rK HO496) hb); have n6_ := Aside0.mk (Kd.N_lower ho114 (below_size bB)); have n7_ := Aside0.mk (below_step bB hb); clear HO_2; clear HO_7; clear HO_9; clear HO_11; clear HO491; clear HO496; clear HB; have HO_2 := n0_; have HO_7 := n1_; have HO_9 := n2_; have HO_11 := n3_; have HO491 := n4_; have HO496 := n5_; have HO499 := n6_; have HB := n7_; clear n0_ n1_ n2_ n3_ n4_ n5_ n6_ n7_; clear hb ho114; have p500 : 0 ≤ (x13_2 : Int) := of_decide_eq_true aK; have q500 : x13_2 < (l1.length : Int) := of_decide_eq_true aK; obtain ⟨ad500, A500_0, c500_0, e500, hx500_0, hl500_0, hi500_0⟩ := at_L3 HR1.out x13_2 p500 q500; obtain rfl : ad479 = ad500 := (by injection e500); replace hx500_0 := (HB.out.cell (World.block_lt_of_cell? w _ hx500_0)).trans hx500_0; have HR500_0 := Aside0.mk hi500_0; have HC500_0 := Aside0.mk hl500_0; clear hi500_0 hl500_0; replace p500 := eq_true p500; replace q500 := eq_true q500; obtain ⟨Ao115, co115, eo115⟩ := Kd.N_slice HO499.out; subst eo115) | ((with_reducible refine gate_callee (f := 18) rfl ?_); refine goesL_ (some 139) rfl rfl Tryd.func18 (by kernel_rfl) rfl #[.slice A0 l0.length c0, .slice Ao115 y497.length co115, .slice A500_0 (rd_L3 l1 x13_2).length c500_0, .int .i64 0] rfl mA ?_; (with_reducible refine (path_Find.calls (hG := gK) kj37 _ _ l0 _ _ y497 _ _ (rd_L3 l1 x13_2) 0 t501 t502 _ ?side1 ?side2 ?side3 ?side4 ?side5 ?side6 A66.out).mono ?_); (case side1 => exact cK (Kd.C_below HR0.out HB.out)); (case side2 => exact HC0.out); (case side3 => exact cK ((Kd.N_reads' HO499.out).2.2)); (case side4 => exact (Kd.N_reads' HO499.out).2.1); (case side5 => exact cK (Kd.C_below HR500_0.out HB.out)); (case side6 => exact HC500_0.out); rintro e w116 ⟨v503, rfl, ho0, hb⟩; refine ⟨_, rfl, ?_⟩; have n0_ := Aside0.mk (Kd.V_elder' (by (with_reducible repeat (first | apply Kd.V_alloc | apply Kd.V_drewN | apply Kd.V_drew)); exact HO_2.out) (Kd.R_base ho0) hb); have n1_ := Aside0.mk (Kd.R_elder' (rK HO_7) (Kd.R_base ho0) hb); have n2_ := Aside0.mk (Kd.R_elder' (rK HO_9) (Kd.R_base ho0) hb); have n3_ := Aside0.mk (Kd.R_elder' (rK HO_11) (Kd.R_base ho0) hb); have n4_ := Aside0.mk (Kd.N_elder' (nK HO491) (Kd.R_base ho0) hb); have n5_ := Aside0.mk (Kd.R_elder' (rK HO496) (Kd.R_base ho0) hb); have n6_ := Aside0.mk (Kd.N_elder' (nK HO499) (Kd.R_base ho0) hb); have n7_ := Aside0.mk (Kd.R_lower (Kd.R_new' (Kd.R_new' (Kd.R_new' (Kd.R_new' (Kd.R_newM (M := fun k_ => (w.heap.size ≤ k_)) ho0 (below_size bB) (fun k_ h_ => h_)) (Kd.R_lt (rK HO_7))) (Kd.R_lt (rK HO_9))) (Kd.R_lt (rK HO_11))) (Kd.R_lt (rK HO496))) (below_size bB)); have n8_ := Aside0.mk (below_step bB hb); clear HO_2; clear HO_7; clear HO_9; clear HO_11; clear HO491; clear HO496; clear HO499; clear HB; have HO_2 := n0_; have HO_7 := n1_; have HO_9 := n2_; have HO_11 := n3_; have HO491 := n4_; have HO496 := n5_; have HO499 := n6_; have HO504 := n7_; have HB := n8_; clear n0_ n1_ n2_ n3_ n4_ n5_ n6_ n7_ n8_; (try clear hb); (try clear hb2); (try clear hk); (try clear hi); (try clear ho0)) | ((with_reducible refine gate_callee (f := 13) rfl ?_); refine goesL_ (some 143) rfl rfl Tryd.func13 (by kernel_rfl) rfl #[.int .i64 t494] rfl mA ?_; (with_reducible refine (quaerelaw0_Num.calls t494 t505 _ A67.out).mono ?_); rintro e w' ⟨rfl, ⟨nd, rfl⟩⟩; refine ⟨_, rfl, ?_⟩) | (go_at_call 13; (with_reducible refine (quaerelaw0_Num.calls t502 t506 _ A69.out).mono ?_); rintro e w' ⟨rfl, ⟨nd, rfl⟩⟩))
                  go_ret
                  exact ⟨eK, bB⟩
                ·rw [if_neg c68] at H
                 have c68b0 : (t505 == 0) = false := beq_eq_false_iff_ne.mpr c68
                 have c68b1 : (t505 != 0) = true := bne_iff_ne.mpr c68
                 obtain rfl := Option.some.inj H
                 go_wp2_with (first | ((with_reducible refine gate_dst (N := 123) rfl ?_); (try (refine gate_guard (by rfl) ?_; dsimp only)); refine Kd.N_lit (Kd.slice 3 (Kd.int .i64)) _ 23 ?hg (N' := 123) ?hd (xs := ([l2] : List (List Int))) (inner := [.slice A2 l2.length c2]) (ok := (fun k_ => (P2_ k_ ∨ w.heap.size ≤ k_) ∧ some k_ ≠ (v462 : Value).ownBlock ∧ some k_ ≠ (v466 : Value).ownBlock ∧ some k_ ≠ (v470 : Value).ownBlock)) (okp := (fun k_ => (P2_ k_ ∨ w.heap.size ≤ k_) ∧ some k_ ≠ (v462 : Value).ownBlock ∧ some k_ ≠ (v466 : Value).ownBlock ∧ some k_ ≠ (v470 : Value).ownBlock)) ?hr ?hp (fun _ hk => hk) ((show ∀ k_, wc.heap.size ≤ k_ → (fun k_ => (P2_ k_ ∨ w.heap.size ≤ k_) ∧ some k_ ≠ (v462 : Value).ownBlock ∧ some k_ ≠ (v466 : Value).ownBlock ∧ some k_ ≠ (v470 : Value).ownBlock) k_ from fun k_ hk => ⟨(.inr (Nat.le_trans (below_size bB) hk)), Kd.fresh' (Kd.R_lt (rK HO_7)) k_ hk, Kd.fresh' (Kd.R_lt (rK HO_9)) k_ hk, Kd.fresh' (Kd.R_lt (rK HO_11)) k_ hk⟩) _ (Nat.le_refl _)) (Below.refl _ _) (Nat.le_refl _) (by simp) ?_; (case hd => rfl); (case hg => rfl); (case hr => first | (go_simp; done) | (go_simp; rfl)); (case hp => exact (Reps.one (show Kd.FK (Kd.slice 3 (Kd.int .i64)) _ _ l2 [.slice A2 l2.length c2] from (Kd.FK_slice_mk (Kd.V_reads' (Kd.V_mono (ok' := (fun k_ => (P2_ k_ ∨ w.heap.size ≤ k_) ∧ some k_ ≠ (v462 : Value).ownBlock ∧ some k_ ≠ (v466 : Value).ownBlock ∧ some k_ ≠ (v470 : Value).ownBlock)) (HO_2.out) (fun k_ hk => ⟨hk.1, ⟨hk.2.1, ⟨hk.2.2.1, hk.2.2.2⟩⟩⟩))).2.1 (Kd.V_F (Kd.V_mono (ok' := (fun k_ => (P2_ k_ ∨ w.heap.size ≤ k_) ∧ some k_ ≠ (v462 : Value).ownBlock ∧ some k_ ≠ (v466 : Value).ownBlock ∧ some k_ ≠ (v470 : Value).ownBlock)) (HO_2.out) (fun k_ hk => ⟨hk.1, ⟨hk.2.1, ⟨hk.2.2.1, hk.2.2.2⟩⟩⟩))))) (Reps.none _ _))); intro v490 w117 ho118 hb hg_ hnew_; clear hg_ hnew_; (first | rw [← Ny489.out] at ho118 | (simp only [Int.reduceToNat] at ho118; rw [← Ny489.out] at ho118)); have n0_ := Aside0.mk (Kd.V_elder' (by (with_reducible repeat (first | apply Kd.V_alloc | apply Kd.V_drewN | apply Kd.V_drew)); exact HO_2.out) (Kd.N_base ho118) hb); have n1_ := Aside0.mk (Kd.R_below (rK HO_7) hb); have n2_ := Aside0.mk (Kd.R_below (rK HO_9) hb); have n3_ := Aside0.mk (Kd.R_below (rK HO_11) hb); have n4_ := Aside0.mk (Kd.N_lower ho118 (below_size bB)); have n5_ := Aside0.mk (below_step bB hb); clear HO_2; clear HO_7; clear HO_9; clear HO_11; clear HB; have HO_2 := n0_; have HO_7 := n1_; have HO_9 := n2_; have HO_11 := n3_; have HO491 := n4_; have HB := n5_; clear n0_ n1_ n2_ n3_ n4_ n5_; clear hb ho118; have p492 : 0 ≤ (x13_2 : Int) := of_decide_eq_true aK; have q492 : x13_2 < (l1.length : Int) := of_decide_eq_true aK; obtain ⟨ad492, A492_0, c492_0, e492, hx492_0, hl492_0, hi492_0⟩ := at_L3 HR1.out x13_2 p492 q492; obtain rfl : ad479 = ad492 := (by injection e492); replace hx492_0 := (HB.out.cell (World.block_lt_of_cell? w _ hx492_0)).trans hx492_0; have HR492_0 := Aside0.mk hi492_0; have HC492_0 := Aside0.mk hl492_0; clear hi492_0 hl492_0; replace p492 := eq_true p492; replace q492 := eq_true q492; obtain ⟨Ao119, co119, eo119⟩ := Kd.N_slice HO491.out; subst eo119) | ((with_reducible refine gate_callee (f := 18) rfl ?_); refine goesL_ (some 128) rfl rfl Tryd.func18 (by kernel_rfl) rfl #[.slice A0 l0.length c0, .slice Ao119 y489.length co119, .slice A492_0 (rd_L3 l1 x13_2).length c492_0, .int .i64 2] rfl mA ?_; (with_reducible refine (path_Find.calls (hG := gK) kj37 _ _ l0 _ _ y489 _ _ (rd_L3 l1 x13_2) 2 t493 t494 _ ?side1 ?side2 ?side3 ?side4 ?side5 ?side6 A65.out).mono ?_); (case side1 => exact cK (Kd.C_below HR0.out HB.out)); (case side2 => exact HC0.out); (case side3 => exact cK ((Kd.N_reads' HO491.out).2.2)); (case side4 => exact (Kd.N_reads' HO491.out).2.1); (case side5 => exact cK (Kd.C_below HR492_0.out HB.out)); (case side6 => exact HC492_0.out); rintro e w120 ⟨v495, rfl, ho0, hb⟩; refine ⟨_, rfl, ?_⟩; have n0_ := Aside0.mk (Kd.V_elder' (by (with_reducible repeat (first | apply Kd.V_alloc | apply Kd.V_drewN | apply Kd.V_drew)); exact HO_2.out) (Kd.R_base ho0) hb); have n1_ := Aside0.mk (Kd.R_elder' (rK HO_7) (Kd.R_base ho0) hb); have n2_ := Aside0.mk (Kd.R_elder' (rK HO_9) (Kd.R_base ho0) hb); have n3_ := Aside0.mk (Kd.R_elder' (rK HO_11) (Kd.R_base ho0) hb); have n4_ := Aside0.mk (Kd.N_elder' (nK HO491) (Kd.R_base ho0) hb); have n5_ := Aside0.mk (Kd.R_lower (Kd.R_new' (Kd.R_new' (Kd.R_new' (Kd.R_newM (M := fun k_ => (w.heap.size ≤ k_)) ho0 (below_size bB) (fun k_ h_ => h_)) (Kd.R_lt (rK HO_7))) (Kd.R_lt (rK HO_9))) (Kd.R_lt (rK HO_11))) (below_size bB)); have n6_ := Aside0.mk (below_step bB hb); clear HO_2; clear HO_7; clear HO_9; clear HO_11; clear HO491; clear HB; have HO_2 := n0_; have HO_7 := n1_; have HO_9 := n2_; have HO_11 := n3_; have HO491 := n4_; have HO496 := n5_; have HB := n6_; clear n0_ n1_ n2_ n3_ n4_ n5_ n6_; (try clear hb); (try clear hb2); (try clear hk); (try clear hi); (try clear ho0)) | ((with_reducible refine gate_dst (N := 134) rfl ?_); (try (refine gate_guard (by rfl) ?_; dsimp only)); refine Kd.N_lit (Kd.slice 3 (Kd.int .i64)) _ 23 ?hg (N' := 134) ?hd (xs := ([l2] : List (List Int))) (inner := [.slice A2 l2.length c2]) (ok := (fun k_ => (P2_ k_ ∨ w.heap.size ≤ k_) ∧ some k_ ≠ (v462 : Value).ownBlock ∧ some k_ ≠ (v466 : Value).ownBlock ∧ some k_ ≠ (v470 : Value).ownBlock ∧ some k_ ≠ (.slice Ao119 y489.length co119 : Value).ownBlock ∧ some k_ ≠ (v495 : Value).ownBlock)) (okp := (fun k_ => (P2_ k_ ∨ w.heap.size ≤ k_) ∧ some k_ ≠ (v462 : Value).ownBlock ∧ some k_ ≠ (v466 : Value).ownBlock ∧ some k_ ≠ (v470 : Value).ownBlock ∧ some k_ ≠ (.slice Ao119 y489.length co119 : Value).ownBlock ∧ some k_ ≠ (v495 : Value).ownBlock)) ?hr ?hp (fun _ hk => hk) ((show ∀ k_, w120.heap.size ≤ k_ → (fun k_ => (P2_ k_ ∨ w.heap.size ≤ k_) ∧ some k_ ≠ (v462 : Value).ownBlock ∧ some k_ ≠ (v466 : Value).ownBlock ∧ some k_ ≠ (v470 : Value).ownBlock ∧ some k_ ≠ (.slice Ao119 y489.length co119 : Value).ownBlock ∧ some k_ ≠ (v495 : Value).ownBlock) k_ from fun k_ hk => ⟨(.inr (Nat.le_trans (below_size bB) hk)), Kd.fresh' (Kd.R_lt (rK HO_7)) k_ hk, Kd.fresh' (Kd.R_lt (rK HO_9)) k_ hk, Kd.fresh' (Kd.R_lt (rK HO_11)) k_ hk, Kd.fresh' (Kd.N_lt (nK HO491)) k_ hk, Kd.fresh' (Kd.R_lt (rK HO496)) k_ hk⟩) _ (Nat.le_refl _)) (Below.refl _ _) (Nat.le_refl _) (by simp) ?_; (case hd => rfl); (case hg => rfl); (case hr => first | (go_simp; done) | (go_simp; rfl)); (case hp => exact (Reps.one (show Kd.FK (Kd.slice 3 (Kd.int .i64)) _ _ l2 [.slice A2 l2.length c2] from (Kd.FK_slice_mk (Kd.V_reads' (Kd.V_mono (ok' := (fun k_ => (P2_ k_ ∨ w.heap.size ≤ k_) ∧ some k_ ≠ (v462 : Value).ownBlock ∧ some k_ ≠ (v466 : Value).ownBlock ∧ some k_ ≠ (v470 : Value).ownBlock ∧ some k_ ≠ (.slice Ao119 y489.length co119 : Value).ownBlock ∧ some k_ ≠ (v495 : Value).ownBlock)) (HO_2.out) (fun k_ hk => ⟨hk.1.1.1, ⟨hk.1.1.2.1, ⟨hk.1.1.2.2.1, ⟨hk.1.1.2.2.2, ⟨hk.1.2, hk.2⟩⟩⟩⟩⟩))).2.1 (Kd.V_F (Kd.V_mono (ok' := (fun k_ => (P2_ k_ ∨ w.heap.size ≤ k_) ∧ some k_ ≠ (v462 : Value).ownBlock ∧ some k_ ≠ (v466 : Value).ownBlock ∧ some k_ ≠ (v470 : Value).ownBlock ∧ some k_ ≠ (.slice Ao119 y489.length co119 : Value).ownBlock ∧ some k_ ≠ (v495 : Value).ownBlock)) (HO_2.out) (fun k_ hk => ⟨hk.1.1.1, ⟨hk.1.1.2.1, ⟨hk.1.1.2.2.1, ⟨hk.1.1.2.2.2, ⟨hk.1.2, hk.2⟩⟩⟩⟩⟩))))) (Reps.none _ _))); intro v498 w121 ho122 hb hg_ hnew_; clear hg_ hnew_; (first | rw [← Ny497.out] at ho122 | (simp only [Int.reduceToNat] at ho122; rw [← Ny497.out] at ho122)); have n0_ := Aside0.mk (Kd.V_elder' (by (with_reducible repeat (first | apply Kd.V_alloc | apply Kd.V_drewN | apply Kd.V_drew)); exact HO_2.out) (Kd.N_base ho122) hb); have n1_ := Aside0.mk (Kd.R_below (rK HO_7) hb); have n2_ := Aside0.mk (Kd.R_below (rK HO_9) hb); have n3_ := Aside0.mk (Kd.R_below (rK HO_11) hb); have n4_ := Aside0.mk (Kd.N_elder' (nK HO491) (Kd.N_base ho122) hb); have n5_ := Aside0.mk (Kd.R_below (rK HO496) hb); have n6_ := Aside0.mk (Kd.N_lower ho122 (below_size bB)); have n7_ := Aside0.mk (below_step bB hb); clear HO_2; clear HO_7; clear HO_9; clear HO_11; clear HO491; clear HO496; clear HB; have HO_2 := n0_; have HO_7 := n1_; have HO_9 := n2_; have HO_11 := n3_; have HO491 := n4_; have HO496 := n5_; have HO499 := n6_; have HB := n7_; clear n0_ n1_ n2_ n3_ n4_ n5_ n6_ n7_; clear hb ho122; have p500 : 0 ≤ (x13_2 : Int) := of_decide_eq_true aK; have q500 : x13_2 < (l1.length : Int) := of_decide_eq_true aK; obtain ⟨ad500, A500_0, c500_0, e500, hx500_0, hl500_0, hi500_0⟩ := at_L3 HR1.out x13_2 p500 q500; obtain rfl : ad479 = ad500 := (by injection e500); replace hx500_0 := (HB.out.cell (World.block_lt_of_cell? w _ hx500_0)).trans hx500_0; have HR500_0 := Aside0.mk hi500_0; have HC500_0 := Aside0.mk hl500_0; clear hi500_0 hl500_0; replace p500 := eq_true p500; replace q500 := eq_true q500; obtain ⟨Ao123, co123, eo123⟩ := Kd.N_slice HO499.out; subst eo123) | ((with_reducible refine gate_callee (f := 18) rfl ?_); refine goesL_ (some 139) rfl rfl Tryd.func18 (by kernel_rfl) rfl #[.slice A0 l0.length c0, .slice Ao123 y497.length co123, .slice A500_0 (rd_L3 l1 x13_2).length c500_0, .int .i64 0] rfl mA ?_; (with_reducible refine (path_Find.calls (hG := gK) kj37 _ _ l0 _ _ y497 _ _ (rd_L3 l1 x13_2) 0 t501 t502 _ ?side1 ?side2 ?side3 ?side4 ?side5 ?side6 A66.out).mono ?_); (case side1 => exact cK (Kd.C_below HR0.out HB.out)); (case side2 => exact HC0.out); (case side3 => exact cK ((Kd.N_reads' HO499.out).2.2)); (case side4 => exact (Kd.N_reads' HO499.out).2.1); (case side5 => exact cK (Kd.C_below HR500_0.out HB.out)); (case side6 => exact HC500_0.out); rintro e w124 ⟨v503, rfl, ho0, hb⟩; refine ⟨_, rfl, ?_⟩; have n0_ := Aside0.mk (Kd.V_elder' (by (with_reducible repeat (first | apply Kd.V_alloc | apply Kd.V_drewN | apply Kd.V_drew)); exact HO_2.out) (Kd.R_base ho0) hb); have n1_ := Aside0.mk (Kd.R_elder' (rK HO_7) (Kd.R_base ho0) hb); have n2_ := Aside0.mk (Kd.R_elder' (rK HO_9) (Kd.R_base ho0) hb); have n3_ := Aside0.mk (Kd.R_elder' (rK HO_11) (Kd.R_base ho0) hb); have n4_ := Aside0.mk (Kd.N_elder' (nK HO491) (Kd.R_base ho0) hb); have n5_ := Aside0.mk (Kd.R_elder' (rK HO496) (Kd.R_base ho0) hb); have n6_ := Aside0.mk (Kd.N_elder' (nK HO499) (Kd.R_base ho0) hb); have n7_ := Aside0.mk (Kd.R_lower (Kd.R_new' (Kd.R_new' (Kd.R_new' (Kd.R_new' (Kd.R_newM (M := fun k_ => (w.heap.size ≤ k_)) ho0 (below_size bB) (fun k_ h_ => h_)) (Kd.R_lt (rK HO_7))) (Kd.R_lt (rK HO_9))) (Kd.R_lt (rK HO_11))) (Kd.R_lt (rK HO496))) (below_size bB)); have n8_ := Aside0.mk (below_step bB hb); clear HO_2; clear HO_7; clear HO_9; clear HO_11; clear HO491; clear HO496; clear HO499; clear HB; have HO_2 := n0_; have HO_7 := n1_; have HO_9 := n2_; have HO_11 := n3_; have HO491 := n4_; have HO496 := n5_; have HO499 := n6_; have HO504 := n7_; have HB := n8_; clear n0_ n1_ n2_ n3_ n4_ n5_ n6_ n7_ n8_; (try clear hb); (try clear hb2); (try clear hk); (try clear hi); (try clear ho0)) | ((with_reducible refine gate_callee (f := 13) rfl ?_); refine goesL_ (some 143) rfl rfl Tryd.func13 (by kernel_rfl) rfl #[.int .i64 t494] rfl mA ?_; (with_reducible refine (quaerelaw0_Num.calls t494 t505 _ A67.out).mono ?_); rintro e w' ⟨rfl, ⟨nd, rfl⟩⟩; refine ⟨_, rfl, ?_⟩))
                 go_ret
                 exact ⟨eK, bB⟩
               ·rw [if_neg c64] at H
                exact absurd H (by simp)
              ·rw [if_neg c63] at H
               exact absurd H (by simp)
         ·rw [if_neg c21] at H
          exact absurd H (by simp)
        ·rw [if_neg c20] at H
         have c20b0 : decide (x13_2 < (l1.length : Int)) = false := decide_eq_false c20
         clear c20
         obtain rfl := Option.some.inj H
         go_wp2
         go_ret
         exact ⟨eK, bB⟩
  ·rw [if_neg c10] at H
   have c10b0 : (t472 == 0) = false := beq_eq_false_iff_ne.mpr c10
   have c10b1 : (t472 != 0) = true := bne_iff_ne.mpr c10
   replace H := Option.bind_eq_some_iff.mp H
   obtain ⟨t473, A1250, H⟩ := H
   replace H : ((quaerelaw0_Num.f t465).bind fun t474 => (if t473 = t474 then ((quaerelaw0_Num.f t465).bind fun t475 => ((quaerelaw0_Num.f t469).bind fun t476 => (if t475 = t476 then (some ((wrap64 ((wrap64 ((t460.length : Int) + (t464.length : Int))) + (t468.length : Int))) == 0)) else (some false)))) else (some false))) = some r := H
   have A125 := Aside0.mk A1250
   clear A1250
   replace H := Option.bind_eq_some_iff.mp H
   obtain ⟨t474, A1260, H⟩ := H
   replace H : (if t473 = t474 then ((quaerelaw0_Num.f t465).bind fun t475 => ((quaerelaw0_Num.f t469).bind fun t476 => (if t475 = t476 then (some ((wrap64 ((wrap64 ((t460.length : Int) + (t464.length : Int))) + (t468.length : Int))) == 0)) else (some false)))) else (some false)) = some r := H
   have A126 := Aside0.mk A1260
   clear A1260
   by_cases c127 : t473 = t474
   ·rw [if_pos c127] at H
    have c127b0 : (t473 == t474) = true := beq_iff_eq.mpr c127
    have c127b1 : (t473 != t474) = false := bne_eq_false_iff_eq.mpr c127
    clear c127
    replace H := Option.bind_eq_some_iff.mp H
    obtain ⟨t475, A1280, H⟩ := H
    replace H : ((quaerelaw0_Num.f t469).bind fun t476 => (if t475 = t476 then (some ((wrap64 ((wrap64 ((t460.length : Int) + (t464.length : Int))) + (t468.length : Int))) == 0)) else (some false))) = some r := H
    have A128 := Aside0.mk A1280
    clear A1280
    replace H := Option.bind_eq_some_iff.mp H
    obtain ⟨t476, A1290, H⟩ := H
    replace H : (if t475 = t476 then (some ((wrap64 ((wrap64 ((t460.length : Int) + (t464.length : Int))) + (t468.length : Int))) == 0)) else (some false)) = some r := H
    have A129 := Aside0.mk A1290
    clear A1290
    by_cases c130 : t475 = t476
    ·rw [if_pos c130] at H
     have c130b0 : (t475 == t476) = true := beq_iff_eq.mpr c130
     have c130b1 : (t475 != t476) = false := bne_eq_false_iff_eq.mpr c130
     clear c130
     obtain rfl := Option.some.inj H
     go_enter Tryd.func5, Tryd.ntmps5
     go_wp2_with (first | ((with_reducible refine gate_callee (f := 16) rfl ?_); refine goesL_ (some 18) rfl rfl Tryd.func16 (by kernel_rfl) rfl #[] rfl mA ?_; (with_reducible refine (quaerelaw12_awake.calls (hG := gK) k  true _ A4.out).mono ?_); rintro e w131 ⟨rfl, hb⟩; refine ⟨_, rfl, ?_⟩; have n0_ := Aside0.mk (Kd.V_below (by (with_reducible repeat (first | apply Kd.V_alloc | apply Kd.V_drewN | apply Kd.V_drew)); exact HO2.out) hb); have n1_ := Aside0.mk (below_step bB hb); clear HO2; clear HB; have HO2 := n0_; have HB := n1_; clear n0_ n1_; (try clear hb); (try clear hb2); (try clear hk); (try clear hi)) | ((with_reducible refine gate_callee (f := 18) rfl ?_); refine goesL_ (some 24) rfl rfl Tryd.func18 (by kernel_rfl) rfl #[.slice A0 l0.length c0, .slice A1 l1.length c1, .slice A2 l2.length c2, .int .i64 0] rfl mA ?_; (with_reducible refine (path_Find.calls (hG := gK) k _ _ l0 _ _ l1 _ _ l2 0 t460 t461 _ ?side1 ?side2 ?side3 ?side4 ?side5 ?side6 A6.out).mono ?_); (case side1 => exact cK (Kd.C_below HR0.out HB.out)); (case side2 => exact HC0.out); (case side3 => exact cK (Kd.C_below HR1.out HB.out)); (case side4 => exact HC1.out); (case side5 => exact cK ((Kd.V_reads' HO2.out).2.2)); (case side6 => exact (Kd.V_reads' HO2.out).2.1); rintro e w132 ⟨v462, rfl, ho0, hb⟩; refine ⟨_, rfl, ?_⟩; have n0_ := Aside0.mk (Kd.V_elder' (by (with_reducible repeat (first | apply Kd.V_alloc | apply Kd.V_drewN | apply Kd.V_drew)); exact HO2.out) (Kd.R_base ho0) hb); have n1_ := Aside0.mk (Kd.R_lower (Kd.R_newM (M := fun k_ => (w.heap.size ≤ k_)) ho0 (below_size bB) (fun k_ h_ => h_)) (below_size bB)); have n2_ := Aside0.mk (below_step bB hb); clear HO2; clear HB; have HO2 := n0_; have HO463 := n1_; have HB := n2_; clear n0_ n1_ n2_; (try clear hb); (try clear hb2); (try clear hk); (try clear hi); (try clear ho0)) | ((with_reducible refine gate_callee (f := 18) rfl ?_); refine goesL_ (some 31) rfl rfl Tryd.func18 (by kernel_rfl) rfl #[.slice A0 l0.length c0, .slice A1 l1.length c1, .slice A2 l2.length c2, .int .i64 1] rfl mA ?_; (with_reducible refine (path_Find.calls (hG := gK) k _ _ l0 _ _ l1 _ _ l2 1 t464 t465 _ ?side1 ?side2 ?side3 ?side4 ?side5 ?side6 A7.out).mono ?_); (case side1 => exact cK (Kd.C_below HR0.out HB.out)); (case side2 => exact HC0.out); (case side3 => exact cK (Kd.C_below HR1.out HB.out)); (case side4 => exact HC1.out); (case side5 => exact cK ((Kd.V_reads' HO2.out).2.2)); (case side6 => exact (Kd.V_reads' HO2.out).2.1); rintro e w133 ⟨v466, rfl, ho0, hb⟩; refine ⟨_, rfl, ?_⟩; have n0_ := Aside0.mk (Kd.V_elder' (by (with_reducible repeat (first | apply Kd.V_alloc | apply Kd.V_drewN | apply Kd.V_drew)); exact HO2.out) (Kd.R_base ho0) hb); have n1_ := Aside0.mk (Kd.R_elder' (rK HO463) (Kd.R_base ho0) hb); have n2_ := Aside0.mk (Kd.R_lower (Kd.R_new' (Kd.R_newM (M := fun k_ => (w.heap.size ≤ k_)) ho0 (below_size bB) (fun k_ h_ => h_)) (Kd.R_lt (rK HO463))) (below_size bB)); have n3_ := Aside0.mk (below_step bB hb); clear HO2; clear HO463; clear HB; have HO2 := n0_; have HO463 := n1_; have HO467 := n2_; have HB := n3_; clear n0_ n1_ n2_ n3_; (try clear hb); (try clear hb2); (try clear hk); (try clear hi); (try clear ho0)) | ((with_reducible refine gate_callee (f := 18) rfl ?_); refine goesL_ (some 38) rfl rfl Tryd.func18 (by kernel_rfl) rfl #[.slice A0 l0.length c0, .slice A1 l1.length c1, .slice A2 l2.length c2, .int .i64 2] rfl mA ?_; (with_reducible refine (path_Find.calls (hG := gK) k _ _ l0 _ _ l1 _ _ l2 2 t468 t469 _ ?side1 ?side2 ?side3 ?side4 ?side5 ?side6 A8.out).mono ?_); (case side1 => exact cK (Kd.C_below HR0.out HB.out)); (case side2 => exact HC0.out); (case side3 => exact cK (Kd.C_below HR1.out HB.out)); (case side4 => exact HC1.out); (case side5 => exact cK ((Kd.V_reads' HO2.out).2.2)); (case side6 => exact (Kd.V_reads' HO2.out).2.1); rintro e w134 ⟨v470, rfl, ho0, hb⟩; refine ⟨_, rfl, ?_⟩; have n0_ := Aside0.mk (Kd.V_elder' (by (with_reducible repeat (first | apply Kd.V_alloc | apply Kd.V_drewN | apply Kd.V_drew)); exact HO2.out) (Kd.R_base ho0) hb); have n1_ := Aside0.mk (Kd.R_elder' (rK HO463) (Kd.R_base ho0) hb); have n2_ := Aside0.mk (Kd.R_elder' (rK HO467) (Kd.R_base ho0) hb); have n3_ := Aside0.mk (Kd.R_lower (Kd.R_new' (Kd.R_new' (Kd.R_newM (M := fun k_ => (w.heap.size ≤ k_)) ho0 (below_size bB) (fun k_ h_ => h_)) (Kd.R_lt (rK HO463))) (Kd.R_lt (rK HO467))) (below_size bB)); have n4_ := Aside0.mk (below_step bB hb); clear HO2; clear HO463; clear HO467; clear HB; have HO2 := n0_; have HO463 := n1_; have HO467 := n2_; have HO471 := n3_; have HB := n4_; clear n0_ n1_ n2_ n3_ n4_; (try clear hb); (try clear hb2); (try clear hk); (try clear hi); (try clear ho0)) | ((with_reducible refine gate_callee (f := 13) rfl ?_); refine goesL_ (some 42) rfl rfl Tryd.func13 (by kernel_rfl) rfl #[.int .i64 t461] rfl mA ?_; (with_reducible refine (quaerelaw0_Num.calls t461 t472 _ A9.out).mono ?_); rintro e w' ⟨rfl, ⟨nd, rfl⟩⟩; refine ⟨_, rfl, ?_⟩) | ((with_reducible refine gate_callee (f := 13) rfl ?_); refine goesL_ (some 45) rfl rfl Tryd.func13 (by kernel_rfl) rfl #[.int .i64 t461] rfl mA ?_; (with_reducible refine (quaerelaw0_Num.calls t461 t473 _ A125.out).mono ?_); rintro e w' ⟨rfl, ⟨nd, rfl⟩⟩; refine ⟨_, rfl, ?_⟩) | ((with_reducible refine gate_callee (f := 13) rfl ?_); refine goesL_ (some 47) rfl rfl Tryd.func13 (by kernel_rfl) rfl #[.int .i64 t465] rfl mA ?_; (with_reducible refine (quaerelaw0_Num.calls t465 t474 _ A126.out).mono ?_); rintro e w' ⟨rfl, ⟨nd, rfl⟩⟩; refine ⟨_, rfl, ?_⟩) | (go_at_call 13; (with_reducible refine (quaerelaw0_Num.calls t465 t475 _ A128.out).mono ?_); rintro e w' ⟨rfl, ⟨nd, rfl⟩⟩) | (go_at_call 13; (with_reducible refine (quaerelaw0_Num.calls t469 t476 _ A129.out).mono ?_); rintro e w' ⟨rfl, ⟨nd, rfl⟩⟩; obtain ⟨Ao135, co135, eo135⟩ := Kd.R_slice HO463.out; subst eo135; obtain ⟨Ao136, co136, eo136⟩ := Kd.R_slice HO467.out; subst eo136; obtain ⟨Ao137, co137, eo137⟩ := Kd.R_slice HO471.out; subst eo137))
     go_ret
     exact ⟨eK, bB⟩
    ·rw [if_neg c130] at H
     have c130b0 : (t475 == t476) = false := beq_eq_false_iff_ne.mpr c130
     have c130b1 : (t475 != t476) = true := bne_iff_ne.mpr c130
     obtain rfl := Option.some.inj H
     go_enter Tryd.func5, Tryd.ntmps5
     go_wp2_with (first | ((with_reducible refine gate_callee (f := 16) rfl ?_); refine goesL_ (some 18) rfl rfl Tryd.func16 (by kernel_rfl) rfl #[] rfl mA ?_; (with_reducible refine (quaerelaw12_awake.calls (hG := gK) k  true _ A4.out).mono ?_); rintro e w138 ⟨rfl, hb⟩; refine ⟨_, rfl, ?_⟩; have n0_ := Aside0.mk (Kd.V_below (by (with_reducible repeat (first | apply Kd.V_alloc | apply Kd.V_drewN | apply Kd.V_drew)); exact HO2.out) hb); have n1_ := Aside0.mk (below_step bB hb); clear HO2; clear HB; have HO2 := n0_; have HB := n1_; clear n0_ n1_; (try clear hb); (try clear hb2); (try clear hk); (try clear hi)) | ((with_reducible refine gate_callee (f := 18) rfl ?_); refine goesL_ (some 24) rfl rfl Tryd.func18 (by kernel_rfl) rfl #[.slice A0 l0.length c0, .slice A1 l1.length c1, .slice A2 l2.length c2, .int .i64 0] rfl mA ?_; (with_reducible refine (path_Find.calls (hG := gK) k _ _ l0 _ _ l1 _ _ l2 0 t460 t461 _ ?side1 ?side2 ?side3 ?side4 ?side5 ?side6 A6.out).mono ?_); (case side1 => exact cK (Kd.C_below HR0.out HB.out)); (case side2 => exact HC0.out); (case side3 => exact cK (Kd.C_below HR1.out HB.out)); (case side4 => exact HC1.out); (case side5 => exact cK ((Kd.V_reads' HO2.out).2.2)); (case side6 => exact (Kd.V_reads' HO2.out).2.1); rintro e w139 ⟨v462, rfl, ho0, hb⟩; refine ⟨_, rfl, ?_⟩; have n0_ := Aside0.mk (Kd.V_elder' (by (with_reducible repeat (first | apply Kd.V_alloc | apply Kd.V_drewN | apply Kd.V_drew)); exact HO2.out) (Kd.R_base ho0) hb); have n1_ := Aside0.mk (Kd.R_lower (Kd.R_newM (M := fun k_ => (w.heap.size ≤ k_)) ho0 (below_size bB) (fun k_ h_ => h_)) (below_size bB)); have n2_ := Aside0.mk (below_step bB hb); clear HO2; clear HB; have HO2 := n0_; have HO463 := n1_; have HB := n2_; clear n0_ n1_ n2_; (try clear hb); (try clear hb2); (try clear hk); (try clear hi); (try clear ho0)) | ((with_reducible refine gate_callee (f := 18) rfl ?_); refine goesL_ (some 31) rfl rfl Tryd.func18 (by kernel_rfl) rfl #[.slice A0 l0.length c0, .slice A1 l1.length c1, .slice A2 l2.length c2, .int .i64 1] rfl mA ?_; (with_reducible refine (path_Find.calls (hG := gK) k _ _ l0 _ _ l1 _ _ l2 1 t464 t465 _ ?side1 ?side2 ?side3 ?side4 ?side5 ?side6 A7.out).mono ?_); (case side1 => exact cK (Kd.C_below HR0.out HB.out)); (case side2 => exact HC0.out); (case side3 => exact cK (Kd.C_below HR1.out HB.out)); (case side4 => exact HC1.out); (case side5 => exact cK ((Kd.V_reads' HO2.out).2.2)); (case side6 => exact (Kd.V_reads' HO2.out).2.1); rintro e w140 ⟨v466, rfl, ho0, hb⟩; refine ⟨_, rfl, ?_⟩; have n0_ := Aside0.mk (Kd.V_elder' (by (with_reducible repeat (first | apply Kd.V_alloc | apply Kd.V_drewN | apply Kd.V_drew)); exact HO2.out) (Kd.R_base ho0) hb); have n1_ := Aside0.mk (Kd.R_elder' (rK HO463) (Kd.R_base ho0) hb); have n2_ := Aside0.mk (Kd.R_lower (Kd.R_new' (Kd.R_newM (M := fun k_ => (w.heap.size ≤ k_)) ho0 (below_size bB) (fun k_ h_ => h_)) (Kd.R_lt (rK HO463))) (below_size bB)); have n3_ := Aside0.mk (below_step bB hb); clear HO2; clear HO463; clear HB; have HO2 := n0_; have HO463 := n1_; have HO467 := n2_; have HB := n3_; clear n0_ n1_ n2_ n3_; (try clear hb); (try clear hb2); (try clear hk); (try clear hi); (try clear ho0)) | ((with_reducible refine gate_callee (f := 18) rfl ?_); refine goesL_ (some 38) rfl rfl Tryd.func18 (by kernel_rfl) rfl #[.slice A0 l0.length c0, .slice A1 l1.length c1, .slice A2 l2.length c2, .int .i64 2] rfl mA ?_; (with_reducible refine (path_Find.calls (hG := gK) k _ _ l0 _ _ l1 _ _ l2 2 t468 t469 _ ?side1 ?side2 ?side3 ?side4 ?side5 ?side6 A8.out).mono ?_); (case side1 => exact cK (Kd.C_below HR0.out HB.out)); (case side2 => exact HC0.out); (case side3 => exact cK (Kd.C_below HR1.out HB.out)); (case side4 => exact HC1.out); (case side5 => exact cK ((Kd.V_reads' HO2.out).2.2)); (case side6 => exact (Kd.V_reads' HO2.out).2.1); rintro e w141 ⟨v470, rfl, ho0, hb⟩; refine ⟨_, rfl, ?_⟩; have n0_ := Aside0.mk (Kd.V_elder' (by (with_reducible repeat (first | apply Kd.V_alloc | apply Kd.V_drewN | apply Kd.V_drew)); exact HO2.out) (Kd.R_base ho0) hb); have n1_ := Aside0.mk (Kd.R_elder' (rK HO463) (Kd.R_base ho0) hb); have n2_ := Aside0.mk (Kd.R_elder' (rK HO467) (Kd.R_base ho0) hb); have n3_ := Aside0.mk (Kd.R_lower (Kd.R_new' (Kd.R_new' (Kd.R_newM (M := fun k_ => (w.heap.size ≤ k_)) ho0 (below_size bB) (fun k_ h_ => h_)) (Kd.R_lt (rK HO463))) (Kd.R_lt (rK HO467))) (below_size bB)); have n4_ := Aside0.mk (below_step bB hb); clear HO2; clear HO463; clear HO467; clear HB; have HO2 := n0_; have HO463 := n1_; have HO467 := n2_; have HO471 := n3_; have HB := n4_; clear n0_ n1_ n2_ n3_ n4_; (try clear hb); (try clear hb2); (try clear hk); (try clear hi); (try clear ho0)) | ((with_reducible refine gate_callee (f := 13) rfl ?_); refine goesL_ (some 42) rfl rfl Tryd.func13 (by kernel_rfl) rfl #[.int .i64 t461] rfl mA ?_; (with_reducible refine (quaerelaw0_Num.calls t461 t472 _ A9.out).mono ?_); rintro e w' ⟨rfl, ⟨nd, rfl⟩⟩; refine ⟨_, rfl, ?_⟩) | ((with_reducible refine gate_callee (f := 13) rfl ?_); refine goesL_ (some 45) rfl rfl Tryd.func13 (by kernel_rfl) rfl #[.int .i64 t461] rfl mA ?_; (with_reducible refine (quaerelaw0_Num.calls t461 t473 _ A125.out).mono ?_); rintro e w' ⟨rfl, ⟨nd, rfl⟩⟩; refine ⟨_, rfl, ?_⟩) | ((with_reducible refine gate_callee (f := 13) rfl ?_); refine goesL_ (some 47) rfl rfl Tryd.func13 (by kernel_rfl) rfl #[.int .i64 t465] rfl mA ?_; (with_reducible refine (quaerelaw0_Num.calls t465 t474 _ A126.out).mono ?_); rintro e w' ⟨rfl, ⟨nd, rfl⟩⟩; refine ⟨_, rfl, ?_⟩) | (go_at_call 13; (with_reducible refine (quaerelaw0_Num.calls t465 t475 _ A128.out).mono ?_); rintro e w' ⟨rfl, ⟨nd, rfl⟩⟩) | (go_at_call 13; (with_reducible refine (quaerelaw0_Num.calls t469 t476 _ A129.out).mono ?_); rintro e w' ⟨rfl, ⟨nd, rfl⟩⟩))
     go_ret
     exact ⟨eK, bB⟩
   ·rw [if_neg c127] at H
    have c127b0 : (t473 == t474) = false := beq_eq_false_iff_ne.mpr c127
    have c127b1 : (t473 != t474) = true := bne_iff_ne.mpr c127
    obtain rfl := Option.some.inj H
    go_enter Tryd.func5, Tryd.ntmps5
    go_wp2_with (first | ((with_reducible refine gate_callee (f := 16) rfl ?_); refine goesL_ (some 18) rfl rfl Tryd.func16 (by kernel_rfl) rfl #[] rfl mA ?_; (with_reducible refine (quaerelaw12_awake.calls (hG := gK) k  true _ A4.out).mono ?_); rintro e w142 ⟨rfl, hb⟩; refine ⟨_, rfl, ?_⟩; have n0_ := Aside0.mk (Kd.V_below (by (with_reducible repeat (first | apply Kd.V_alloc | apply Kd.V_drewN | apply Kd.V_drew)); exact HO2.out) hb); have n1_ := Aside0.mk (below_step bB hb); clear HO2; clear HB; have HO2 := n0_; have HB := n1_; clear n0_ n1_; (try clear hb); (try clear hb2); (try clear hk); (try clear hi)) | ((with_reducible refine gate_callee (f := 18) rfl ?_); refine goesL_ (some 24) rfl rfl Tryd.func18 (by kernel_rfl) rfl #[.slice A0 l0.length c0, .slice A1 l1.length c1, .slice A2 l2.length c2, .int .i64 0] rfl mA ?_; (with_reducible refine (path_Find.calls (hG := gK) k _ _ l0 _ _ l1 _ _ l2 0 t460 t461 _ ?side1 ?side2 ?side3 ?side4 ?side5 ?side6 A6.out).mono ?_); (case side1 => exact cK (Kd.C_below HR0.out HB.out)); (case side2 => exact HC0.out); (case side3 => exact cK (Kd.C_below HR1.out HB.out)); (case side4 => exact HC1.out); (case side5 => exact cK ((Kd.V_reads' HO2.out).2.2)); (case side6 => exact (Kd.V_reads' HO2.out).2.1); rintro e w143 ⟨v462, rfl, ho0, hb⟩; refine ⟨_, rfl, ?_⟩; have n0_ := Aside0.mk (Kd.V_elder' (by (with_reducible repeat (first | apply Kd.V_alloc | apply Kd.V_drewN | apply Kd.V_drew)); exact HO2.out) (Kd.R_base ho0) hb); have n1_ := Aside0.mk (Kd.R_lower (Kd.R_newM (M := fun k_ => (w.heap.size ≤ k_)) ho0 (below_size bB) (fun k_ h_ => h_)) (below_size bB)); have n2_ := Aside0.mk (below_step bB hb); clear HO2; clear HB; have HO2 := n0_; have HO463 := n1_; have HB := n2_; clear n0_ n1_ n2_; (try clear hb); (try clear hb2); (try clear hk); (try clear hi); (try clear ho0)) | ((with_reducible refine gate_callee (f := 18) rfl ?_); refine goesL_ (some 31) rfl rfl Tryd.func18 (by kernel_rfl) rfl #[.slice A0 l0.length c0, .slice A1 l1.length c1, .slice A2 l2.length c2, .int .i64 1] rfl mA ?_; (with_reducible refine (path_Find.calls (hG := gK) k _ _ l0 _ _ l1 _ _ l2 1 t464 t465 _ ?side1 ?side2 ?side3 ?side4 ?side5 ?side6 A7.out).mono ?_); (case side1 => exact cK (Kd.C_below HR0.out HB.out)); (case side2 => exact HC0.out); (case side3 => exact cK (Kd.C_below HR1.out HB.out)); (case side4 => exact HC1.out); (case side5 => exact cK ((Kd.V_reads' HO2.out).2.2)); (case side6 => exact (Kd.V_reads' HO2.out).2.1); rintro e w144 ⟨v466, rfl, ho0, hb⟩; refine ⟨_, rfl, ?_⟩; have n0_ := Aside0.mk (Kd.V_elder' (by (with_reducible repeat (first | apply Kd.V_alloc | apply Kd.V_drewN | apply Kd.V_drew)); exact HO2.out) (Kd.R_base ho0) hb); have n1_ := Aside0.mk (Kd.R_elder' (rK HO463) (Kd.R_base ho0) hb); have n2_ := Aside0.mk (Kd.R_lower (Kd.R_new' (Kd.R_newM (M := fun k_ => (w.heap.size ≤ k_)) ho0 (below_size bB) (fun k_ h_ => h_)) (Kd.R_lt (rK HO463))) (below_size bB)); have n3_ := Aside0.mk (below_step bB hb); clear HO2; clear HO463; clear HB; have HO2 := n0_; have HO463 := n1_; have HO467 := n2_; have HB := n3_; clear n0_ n1_ n2_ n3_; (try clear hb); (try clear hb2); (try clear hk); (try clear hi); (try clear ho0)) | ((with_reducible refine gate_callee (f := 18) rfl ?_); refine goesL_ (some 38) rfl rfl Tryd.func18 (by kernel_rfl) rfl #[.slice A0 l0.length c0, .slice A1 l1.length c1, .slice A2 l2.length c2, .int .i64 2] rfl mA ?_; (with_reducible refine (path_Find.calls (hG := gK) k _ _ l0 _ _ l1 _ _ l2 2 t468 t469 _ ?side1 ?side2 ?side3 ?side4 ?side5 ?side6 A8.out).mono ?_); (case side1 => exact cK (Kd.C_below HR0.out HB.out)); (case side2 => exact HC0.out); (case side3 => exact cK (Kd.C_below HR1.out HB.out)); (case side4 => exact HC1.out); (case side5 => exact cK ((Kd.V_reads' HO2.out).2.2)); (case side6 => exact (Kd.V_reads' HO2.out).2.1); rintro e w145 ⟨v470, rfl, ho0, hb⟩; refine ⟨_, rfl, ?_⟩; have n0_ := Aside0.mk (Kd.V_elder' (by (with_reducible repeat (first | apply Kd.V_alloc | apply Kd.V_drewN | apply Kd.V_drew)); exact HO2.out) (Kd.R_base ho0) hb); have n1_ := Aside0.mk (Kd.R_elder' (rK HO463) (Kd.R_base ho0) hb); have n2_ := Aside0.mk (Kd.R_elder' (rK HO467) (Kd.R_base ho0) hb); have n3_ := Aside0.mk (Kd.R_lower (Kd.R_new' (Kd.R_new' (Kd.R_newM (M := fun k_ => (w.heap.size ≤ k_)) ho0 (below_size bB) (fun k_ h_ => h_)) (Kd.R_lt (rK HO463))) (Kd.R_lt (rK HO467))) (below_size bB)); have n4_ := Aside0.mk (below_step bB hb); clear HO2; clear HO463; clear HO467; clear HB; have HO2 := n0_; have HO463 := n1_; have HO467 := n2_; have HO471 := n3_; have HB := n4_; clear n0_ n1_ n2_ n3_ n4_; (try clear hb); (try clear hb2); (try clear hk); (try clear hi); (try clear ho0)) | ((with_reducible refine gate_callee (f := 13) rfl ?_); refine goesL_ (some 42) rfl rfl Tryd.func13 (by kernel_rfl) rfl #[.int .i64 t461] rfl mA ?_; (with_reducible refine (quaerelaw0_Num.calls t461 t472 _ A9.out).mono ?_); rintro e w' ⟨rfl, ⟨nd, rfl⟩⟩; refine ⟨_, rfl, ?_⟩) | ((with_reducible refine gate_callee (f := 13) rfl ?_); refine goesL_ (some 45) rfl rfl Tryd.func13 (by kernel_rfl) rfl #[.int .i64 t461] rfl mA ?_; (with_reducible refine (quaerelaw0_Num.calls t461 t473 _ A125.out).mono ?_); rintro e w' ⟨rfl, ⟨nd, rfl⟩⟩; refine ⟨_, rfl, ?_⟩) | ((with_reducible refine gate_callee (f := 13) rfl ?_); refine goesL_ (some 47) rfl rfl Tryd.func13 (by kernel_rfl) rfl #[.int .i64 t465] rfl mA ?_; (with_reducible refine (quaerelaw0_Num.calls t465 t474 _ A126.out).mono ?_); rintro e w' ⟨rfl, ⟨nd, rfl⟩⟩; refine ⟨_, rfl, ?_⟩))
    go_ret
    exact ⟨eK, bB⟩
 ·replace c5 := Bool.eq_false_iff.mpr c5
  subst c5
  have H1 : (some false) = some r := by rw [if_neg (show ¬ (false = true) by decide)] at H; exact H
  clear H
  have H := H1
  clear H1
  obtain rfl := Option.some.inj H
  go_enter Tryd.func5, Tryd.ntmps5
  go_wp2_with (first | ((with_reducible refine gate_callee (f := 16) rfl ?_); refine goesL_ (some 18) rfl rfl Tryd.func16 (by kernel_rfl) rfl #[] rfl mA ?_; (with_reducible refine (quaerelaw12_awake.calls (hG := gK) k  false _ A4.out).mono ?_); rintro e w146 ⟨rfl, hb⟩; refine ⟨_, rfl, ?_⟩; have n0_ := Aside0.mk (Kd.V_below (by (with_reducible repeat (first | apply Kd.V_alloc | apply Kd.V_drewN | apply Kd.V_drew)); exact HO2.out) hb); have n1_ := Aside0.mk (below_step bB hb); clear HO2; clear HB; have HO2 := n0_; have HB := n1_; clear n0_ n1_; (try clear hb); (try clear hb2); (try clear hk); (try clear hi)))
  go_ret
  exact ⟨eK, bB⟩

end Go.Proofs.YteffiodbflmfkaaDoor.PP
