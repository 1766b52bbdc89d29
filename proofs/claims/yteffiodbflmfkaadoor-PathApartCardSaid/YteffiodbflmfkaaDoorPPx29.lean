-- written by a program of this session's (wip/tools/pp.py), after the kit's print
import Derived.Test.YteffiodbflmfkaaDoorPPx0
import Derived.BigQuiet
import Derived.Test.YteffiodbflmfkaaDoorPPx6
import Derived.Test.YteffiodbflmfkaaDoorPPx19
import Derived.Test.YteffiodbflmfkaaDoorPPx20
namespace Go.Proofs.YteffiodbflmfkaaDoor.PP
open Go.RowKit Go.Proofs.YteffiodbflmfkaaDoorW.PrintWords Go.Proofs.YteffiodbflmfkaaDoorW.PrintLast Go.Proofs.YteffiodbflmfkaaDoorW.PrintMore
attribute [local go_sem] jump_ret jumpE_ret max2_int min2_int max_two min_two max_three min_three max_four min_four   -- for this text's walks alone
set_option linter.unusedVariables false
set_option linter.unusedSimpArgs false

/-! ### quaerelaw12_PathApart: function 7 -/
mutual
noncomputable def quaerelaw12_PathApart.j0 : Nat → List (S59) → List Int → List Int → List Int → Bool → Option (Bool)
 | 0, _, _, _, _, _ => none
 | k + 1, x0, x1, x2, x7, x39 => if x39 = true then (some ((x7.length : Int) == 0)) else ((path_Paths.f k x0 x1).bind fun bt545 => ((path_Paths.f k x0 x2).bind fun bt549 => ((quaerelaw0_Num.f bt545.2).bind fun t553 => (if t553 = 0 then ((quaerelaw0_Num.f bt549.2).bind fun t554 => (quaerelaw12_PathApart.j1 k bt545.1 bt549.1 (t554 != 0))) else (quaerelaw12_PathApart.j1 k bt545.1 bt549.1 true)))))
noncomputable def quaerelaw12_PathApart.j1 : Nat → List (List Int) → List (List Int) → Bool → Option (Bool)
 | 0, _, _, _ => none
 | k + 1, x9, x11, x62 => if x62 = true then (some false) else (quaerelaw12_PathApart.l0 k x9 x11 0)
noncomputable def quaerelaw12_PathApart.l0 : Nat → List (List Int) → List (List Int) → Int → Option (Bool)
 | 0, _, _, _ => none
 | k + 1, x9, x11, x13 => if x13 < (x9.length : Int) then (quaerelaw12_PathApart.l1 k x9 x11 x13 0) else (some true)
noncomputable def quaerelaw12_PathApart.l1 : Nat → List (List Int) → List (List Int) → Int → Int → Option (Bool)
 | 0, _, _, _, _ => none
 | k + 1, x9, x11, x13, x14 => if x14 < (x11.length : Int) then (if 0 ≤ x13 then (if x13 < (x9.length : Int) then (if 0 ≤ x14 then (if (wrap64 (((rd_L3 x9 x13).length : Int) - 1)) < 0 then (quaerelaw12_PathApart.j4 k x9 x11 x13 x14 (wrap64 (((rd_L3 x9 x13).length : Int) - 1)) (wrap64 (((rd_L3 x11 x14).length : Int) - 1)) true) else (quaerelaw12_PathApart.j4 k x9 x11 x13 x14 (wrap64 (((rd_L3 x9 x13).length : Int) - 1)) (wrap64 (((rd_L3 x11 x14).length : Int) - 1)) (decide ((wrap64 (((rd_L3 x11 x14).length : Int) - 1)) < 0)))) else (none)) else (none)) else (none)) else (quaerelaw12_PathApart.l0 k x9 x11 (wrap64 (x13 + 1)))
noncomputable def quaerelaw12_PathApart.j4 : Nat → List (List Int) → List (List Int) → Int → Int → Int → Int → Bool → Option (Bool)
 | 0, _, _, _, _, _, _, _ => none
 | k + 1, x9, x11, x13, x14, x15, x16, x92 => if x92 = true then (some false) else (if 0 ≤ x13 then (if x13 < (x9.length : Int) then (if 0 ≤ x15 then (if x15 ≤ ((rd_L3 x9 x13).length : Int) then (if 0 ≤ x14 then (if x14 < (x11.length : Int) then (if 0 ≤ x16 then (if x16 ≤ ((rd_L3 x11 x14).length : Int) then ((quaerelaw0_SameInts.f k ((rd_L3 x9 x13).take (x15 : Int).toNat) ((rd_L3 x11 x14).take (x16 : Int).toNat)).bind fun t569 => (if t569 = true then (if x15 < ((rd_L3 x9 x13).length : Int) then (if x16 < ((rd_L3 x11 x14).length : Int) then (if (rd (rd_L3 x9 x13) x15) = (rd (rd_L3 x11 x14) x16) then (quaerelaw12_PathApart.l1 k x9 x11 x13 (wrap64 (x14 + 1))) else (if (rd (rd_L3 x9 x13) x15) ≥ 0 then (if (rd (rd_L3 x11 x14) x16) ≥ 0 then (some false) else (quaerelaw12_PathApart.l1 k x9 x11 x13 (wrap64 (x14 + 1)))) else (quaerelaw12_PathApart.l1 k x9 x11 x13 (wrap64 (x14 + 1))))) else (none)) else (none)) else (quaerelaw12_PathApart.l1 k x9 x11 x13 (wrap64 (x14 + 1))))) else (none)) else (none)) else (none)) else (none)) else (none)) else (none)) else (none)) else (none))
end
noncomputable def quaerelaw12_PathApart.f (k : Nat) (l0 : List (S59)) (l1 : List Int) (l2 : List Int) : Option (Bool) := (quaerelaw12_awake.f k).bind fun t536 => (if t536 = true then ((path_Find.f k l0 (([l1] : List (List Int))) l2 0).bind fun bt540 => ((quaerelaw0_Num.f bt540.2).bind fun t544 => (if t544 = 0 then (if (l1.length : Int) = 0 then (quaerelaw12_PathApart.j0 k l0 l1 l2 bt540.1 true) else (quaerelaw12_PathApart.j0 k l0 l1 l2 bt540.1 ((bt540.1.length : Int) == 0))) else (quaerelaw12_PathApart.j0 k l0 l1 l2 bt540.1 true)))) else (some false))
theorem quaerelaw12_PathApart.mono_l : ∀ k, (∀ y0 y1 y2 y3 y4, LeO (quaerelaw12_PathApart.j0 k y0 y1 y2 y3 y4) (quaerelaw12_PathApart.j0 (k + 1) y0 y1 y2 y3 y4)) ∧ (∀ y0 y1 y2, LeO (quaerelaw12_PathApart.j1 k y0 y1 y2) (quaerelaw12_PathApart.j1 (k + 1) y0 y1 y2)) ∧ (∀ y0 y1 y2, LeO (quaerelaw12_PathApart.l0 k y0 y1 y2) (quaerelaw12_PathApart.l0 (k + 1) y0 y1 y2)) ∧ (∀ y0 y1 y2 y3, LeO (quaerelaw12_PathApart.l1 k y0 y1 y2 y3) (quaerelaw12_PathApart.l1 (k + 1) y0 y1 y2 y3)) ∧ (∀ y0 y1 y2 y3 y4 y5 y6, LeO (quaerelaw12_PathApart.j4 k y0 y1 y2 y3 y4 y5 y6) (quaerelaw12_PathApart.j4 (k + 1) y0 y1 y2 y3 y4 y5 y6))
 | 0 => ⟨fun _ _ _ _ _ r h => by simp [quaerelaw12_PathApart.j0] at h, fun _ _ _ r h => by simp [quaerelaw12_PathApart.j1] at h, fun _ _ _ r h => by simp [quaerelaw12_PathApart.l0] at h, fun _ _ _ _ r h => by simp [quaerelaw12_PathApart.l1] at h, fun _ _ _ _ _ _ _ r h => by simp [quaerelaw12_PathApart.j4] at h⟩
 | k + 1 => by
  obtain ⟨ih0, ih1, ih2, ih3, ih4⟩ := quaerelaw12_PathApart.mono_l k
  refine ⟨?_, ?_, ?_, ?_, ?_⟩
  ·intro y0 y1 y2 y3 y4
   unfold quaerelaw12_PathApart.j0
   repeat' first
   | (with_reducible exact ih0 _ _ _ _ _)
   | (with_reducible exact ih1 _ _ _)
   | (with_reducible exact ih2 _ _ _)
   | (with_reducible exact ih3 _ _ _ _)
   | (with_reducible exact ih4 _ _ _ _ _ _ _)
   | (with_reducible exact path_Find.mono _ _ _ _ _)
   | (with_reducible exact path_Paths.mono _ _ _)
   | (with_reducible exact quaerelaw0_SameInts.mono _ _ _)
   | (with_reducible exact quaerelaw12_awake.mono _)
   | (with_reducible exact LeO.refl _)
   | (with_reducible exact LeO.none _)
   | (with_reducible refine LeO.ite ?_ ?_)
   | (with_reducible refine LeO.bind ?_ (fun _ => ?_))
   | exact ih0 _ _ _ _ _
   | exact ih1 _ _ _
   | exact ih2 _ _ _
   | exact ih3 _ _ _ _
   | exact ih4 _ _ _ _ _ _ _
   | exact path_Find.mono _ _ _ _ _
   | exact path_Paths.mono _ _ _
   | exact quaerelaw0_SameInts.mono _ _ _
   | exact quaerelaw12_awake.mono _
   | exact LeO.none _
   | refine LeO.ite ?_ ?_
   | refine LeO.bind ?_ (fun _ => ?_)
  ·intro y0 y1 y2
   unfold quaerelaw12_PathApart.j1
   repeat' first
   | (with_reducible exact ih0 _ _ _ _ _)
   | (with_reducible exact ih1 _ _ _)
   | (with_reducible exact ih2 _ _ _)
   | (with_reducible exact ih3 _ _ _ _)
   | (with_reducible exact ih4 _ _ _ _ _ _ _)
   | (with_reducible exact path_Find.mono _ _ _ _ _)
   | (with_reducible exact path_Paths.mono _ _ _)
   | (with_reducible exact quaerelaw0_SameInts.mono _ _ _)
   | (with_reducible exact quaerelaw12_awake.mono _)
   | (with_reducible exact LeO.refl _)
   | (with_reducible exact LeO.none _)
   | (with_reducible refine LeO.ite ?_ ?_)
   | (with_reducible refine LeO.bind ?_ (fun _ => ?_))
   | exact ih0 _ _ _ _ _
   | exact ih1 _ _ _
   | exact ih2 _ _ _
   | exact ih3 _ _ _ _
   | exact ih4 _ _ _ _ _ _ _
   | exact path_Find.mono _ _ _ _ _
   | exact path_Paths.mono _ _ _
   | exact quaerelaw0_SameInts.mono _ _ _
   | exact quaerelaw12_awake.mono _
   | exact LeO.none _
   | refine LeO.ite ?_ ?_
   | refine LeO.bind ?_ (fun _ => ?_)
  ·intro y0 y1 y2
   unfold quaerelaw12_PathApart.l0
   repeat' first
   | (with_reducible exact ih0 _ _ _ _ _)
   | (with_reducible exact ih1 _ _ _)
   | (with_reducible exact ih2 _ _ _)
   | (with_reducible exact ih3 _ _ _ _)
   | (with_reducible exact ih4 _ _ _ _ _ _ _)
   | (with_reducible exact path_Find.mono _ _ _ _ _)
   | (with_reducible exact path_Paths.mono _ _ _)
   | (with_reducible exact quaerelaw0_SameInts.mono _ _ _)
   | (with_reducible exact quaerelaw12_awake.mono _)
   | (with_reducible exact LeO.refl _)
   | (with_reducible exact LeO.none _)
   | (with_reducible refine LeO.ite ?_ ?_)
   | (with_reducible refine LeO.bind ?_ (fun _ => ?_))
   | exact ih0 _ _ _ _ _
   | exact ih1 _ _ _
   | exact ih2 _ _ _
   | exact ih3 _ _ _ _
   | exact ih4 _ _ _ _ _ _ _
   | exact path_Find.mono _ _ _ _ _
   | exact path_Paths.mono _ _ _
   | exact quaerelaw0_SameInts.mono _ _ _
   | exact quaerelaw12_awake.mono _
   | exact LeO.none _
   | refine LeO.ite ?_ ?_
   | refine LeO.bind ?_ (fun _ => ?_)
  ·intro y0 y1 y2 y3
   unfold quaerelaw12_PathApart.l1
   repeat' first
   | (with_reducible exact ih0 _ _ _ _ _)
   | (with_reducible exact ih1 _ _ _)
   | (with_reducible exact ih2 _ _ _)
   | (with_reducible exact ih3 _ _ _ _)
   | (with_reducible exact ih4 _ _ _ _ _ _ _)
   | (with_reducible exact path_Find.mono _ _ _ _ _)
   | (with_reducible exact path_Paths.mono _ _ _)
   | (with_reducible exact quaerelaw0_SameInts.mono _ _ _)
   | (with_reducible exact quaerelaw12_awake.mono _)
   | (with_reducible exact LeO.refl _)
   | (with_reducible exact LeO.none _)
   | (with_reducible refine LeO.ite ?_ ?_)
   | (with_reducible refine LeO.bind ?_ (fun _ => ?_))
   | exact ih0 _ _ _ _ _
   | exact ih1 _ _ _
   | exact ih2 _ _ _
   | exact ih3 _ _ _ _
   | exact ih4 _ _ _ _ _ _ _
   | exact path_Find.mono _ _ _ _ _
   | exact path_Paths.mono _ _ _
   | exact quaerelaw0_SameInts.mono _ _ _
   | exact quaerelaw12_awake.mono _
   | exact LeO.none _
   | refine LeO.ite ?_ ?_
   | refine LeO.bind ?_ (fun _ => ?_)
  ·intro y0 y1 y2 y3 y4 y5 y6
   unfold quaerelaw12_PathApart.j4
   repeat' first
   | (with_reducible exact ih0 _ _ _ _ _)
   | (with_reducible exact ih1 _ _ _)
   | (with_reducible exact ih2 _ _ _)
   | (with_reducible exact ih3 _ _ _ _)
   | (with_reducible exact ih4 _ _ _ _ _ _ _)
   | (with_reducible exact path_Find.mono _ _ _ _ _)
   | (with_reducible exact path_Paths.mono _ _ _)
   | (with_reducible exact quaerelaw0_SameInts.mono _ _ _)
   | (with_reducible exact quaerelaw12_awake.mono _)
   | (with_reducible exact LeO.refl _)
   | (with_reducible exact LeO.none _)
   | (with_reducible refine LeO.ite ?_ ?_)
   | (with_reducible refine LeO.bind ?_ (fun _ => ?_))
   | exact ih0 _ _ _ _ _
   | exact ih1 _ _ _
   | exact ih2 _ _ _
   | exact ih3 _ _ _ _
   | exact ih4 _ _ _ _ _ _ _
   | exact path_Find.mono _ _ _ _ _
   | exact path_Paths.mono _ _ _
   | exact quaerelaw0_SameInts.mono _ _ _
   | exact quaerelaw12_awake.mono _
   | exact LeO.none _
   | refine LeO.ite ?_ ?_
   | refine LeO.bind ?_ (fun _ => ?_)
theorem quaerelaw12_PathApart.mono : ∀ a0 a1 a2 k, LeO (quaerelaw12_PathApart.f k a0 a1 a2) (quaerelaw12_PathApart.f (k + 1) a0 a1 a2) := by
 intro a0 a1 a2 k
 obtain ⟨ih0, ih1, ih2, ih3, ih4⟩ := quaerelaw12_PathApart.mono_l k
 unfold quaerelaw12_PathApart.f
 repeat' first
   | (with_reducible exact ih0 _ _ _ _ _)
   | (with_reducible exact ih1 _ _ _)
   | (with_reducible exact ih2 _ _ _)
   | (with_reducible exact ih3 _ _ _ _)
   | (with_reducible exact ih4 _ _ _ _ _ _ _)
   | (with_reducible exact path_Find.mono _ _ _ _ _)
   | (with_reducible exact path_Paths.mono _ _ _)
   | (with_reducible exact quaerelaw0_SameInts.mono _ _ _)
   | (with_reducible exact quaerelaw12_awake.mono _)
   | (with_reducible exact LeO.refl _)
   | (with_reducible exact LeO.none _)
   | (with_reducible refine LeO.ite ?_ ?_)
   | (with_reducible refine LeO.bind ?_ (fun _ => ?_))
   | exact ih0 _ _ _ _ _
   | exact ih1 _ _ _
   | exact ih2 _ _ _
   | exact ih3 _ _ _ _
   | exact ih4 _ _ _ _ _ _ _
   | exact path_Find.mono _ _ _ _ _
   | exact path_Paths.mono _ _ _
   | exact quaerelaw0_SameInts.mono _ _ _
   | exact quaerelaw12_awake.mono _
   | exact LeO.none _
   | refine LeO.ite ?_ ?_
   | refine LeO.bind ?_ (fun _ => ?_)
set_option maxHeartbeats 8000000 in
set_option maxRecDepth 100000 in
theorem quaerelaw12_PathApart.calls (k : Nat) (A0 : Option Addr) (c0 : Nat) (l0 : List (S59)) (P1_ : Nat → Prop) (A1 : Option Addr) (c1 : Nat) (l1 : List Int) (A2 : Option Addr) (c2 : Nat) (l2 : List Int) (r : Bool) (w : World) (hr0 : Kd.C k59 w A0 l0.length l0) (hc0 : l0.length ≤ c0) (hs1 : Kd.V (Kd.int .i64) 3 w w.heap.size (fun k_ => P1_ k_) (.slice A1 l1.length c1) l1) (hr2 : Kd.C (Kd.int .i64) w A2 l2.length l2) (hc2 : l2.length ≤ c2) (h : quaerelaw12_PathApart.f k l0 l1 l2 = some r) (hG : Glob w) :
  Calls Tryd.prog 7 #[.slice A0 l0.length c0, .slice A1 l1.length c1, .slice A2 l2.length c2] w fun e w' => e = .returned (.bool r) ∧ Below w.heap.size w w' := by
 have HR0 := Aside0.mk hr0
 have HC0 := Aside0.mk hc0
 clear hr0 hc0
 have HO1 := Aside0.mk (show Kd.V (Kd.int .i64) 3 w w.heap.size (fun k_ => (P1_ k_ ∨ w.heap.size ≤ k_)) (.slice A1 l1.length c1) l1 from Kd.V_mono hs1 (fun k_ hk => .inl hk))
 have HR2 := Aside0.mk hr2
 have HC2 := Aside0.mk hc2
 clear hr2 hc2
 have HB := Aside0.mk (Below.refl w.heap.size w)
 have H : ((quaerelaw12_awake.f k).bind fun t536 => (if t536 = true then ((path_Find.f k l0 (([l1] : List (List Int))) l2 0).bind fun bt540 => ((quaerelaw0_Num.f bt540.2).bind fun t544 => (if t544 = 0 then (if (l1.length : Int) = 0 then (quaerelaw12_PathApart.j0 k l0 l1 l2 bt540.1 true) else (quaerelaw12_PathApart.j0 k l0 l1 l2 bt540.1 ((bt540.1.length : Int) == 0))) else (quaerelaw12_PathApart.j0 k l0 l1 l2 bt540.1 true)))) else (some false))) = some r := h
 clear h
 replace H := Option.bind_eq_some_iff.mp H
 obtain ⟨t536, A40, H⟩ := H
 replace H : (if t536 = true then ((path_Find.f k l0 (([l1] : List (List Int))) l2 0).bind fun bt540 => ((quaerelaw0_Num.f bt540.2).bind fun t544 => (if t544 = 0 then (if (l1.length : Int) = 0 then (quaerelaw12_PathApart.j0 k l0 l1 l2 bt540.1 true) else (quaerelaw12_PathApart.j0 k l0 l1 l2 bt540.1 ((bt540.1.length : Int) == 0))) else (quaerelaw12_PathApart.j0 k l0 l1 l2 bt540.1 true)))) else (some false)) = some r := H
 have A4 := Aside0.mk A40
 clear A40
 by_cases c5 : t536 = true
 ·subst c5
  have H1 : ((path_Find.f k l0 (([l1] : List (List Int))) l2 0).bind fun bt540 => ((quaerelaw0_Num.f bt540.2).bind fun t544 => (if t544 = 0 then (if (l1.length : Int) = 0 then (quaerelaw12_PathApart.j0 k l0 l1 l2 bt540.1 true) else (quaerelaw12_PathApart.j0 k l0 l1 l2 bt540.1 ((bt540.1.length : Int) == 0))) else (quaerelaw12_PathApart.j0 k l0 l1 l2 bt540.1 true)))) = some r := by rw [if_pos rfl] at H; exact H
  clear H
  have H := H1
  clear H1
  obtain ⟨y537, hy537⟩ : ∃ y_ : List (List Int), y_ = (([l1] : List (List Int))) := ⟨_, rfl⟩
  replace H : ((path_Find.f k l0 y537 l2 0).bind fun bt540 => ((quaerelaw0_Num.f bt540.2).bind fun t544 => (if t544 = 0 then (if (l1.length : Int) = 0 then (quaerelaw12_PathApart.j0 k l0 l1 l2 bt540.1 true) else (quaerelaw12_PathApart.j0 k l0 l1 l2 bt540.1 ((bt540.1.length : Int) == 0))) else (quaerelaw12_PathApart.j0 k l0 l1 l2 bt540.1 true)))) = some r := by first | (rw [hy537]; with_reducible exact H) | (have H2_ := (Option.bind_some _ _).symm.trans H; rw [hy537]; with_reducible exact H2_) | (have H2_ := (Option.bind_some _ _).symm.trans H; with_reducible exact H2_) | with_reducible exact H | (rw [hy537]; exact H) | exact H
  have Ny537 := Aside0.mk hy537
  clear hy537
  replace H := Option.bind_eq_some_iff.mp H
  obtain ⟨⟨t540, t541⟩, A60, H⟩ := H
  replace H : ((quaerelaw0_Num.f t541).bind fun t544 => (if t544 = 0 then (if (l1.length : Int) = 0 then (quaerelaw12_PathApart.j0 k l0 l1 l2 t540 true) else (quaerelaw12_PathApart.j0 k l0 l1 l2 t540 ((t540.length : Int) == 0))) else (quaerelaw12_PathApart.j0 k l0 l1 l2 t540 true))) = some r := H
  have A6 := Aside0.mk A60
  clear A60
  have HC7 := Aside0.mk H
  clear H
  go_enter Tryd.func7, Tryd.ntmps7
  go_upto_region 4 with (first | (go_at_call 16; (with_reducible refine (quaerelaw12_awake.calls (hG := gK) k  true _ A4.out).mono ?_); rintro e w8 ⟨rfl, hb⟩; have n0_ := Aside0.mk (Kd.V_below (by (with_reducible repeat (first | apply Kd.V_alloc | apply Kd.V_drewN | apply Kd.V_drew)); exact HO1.out) hb); have n1_ := Aside0.mk (below_step bB hb); clear HO1; clear HB; have HO1 := n0_; have HB := n1_; clear n0_ n1_; (try clear hb); (try clear hb2); (try clear hk); (try clear hi)) | ((with_reducible refine gate_dst (N := 22) rfl ?_); (try (refine gate_guard (by rfl) ?_; dsimp only)); refine Kd.N_lit (Kd.slice 3 (Kd.int .i64)) _ 23 ?hg (N' := 22) ?hd (xs := ([l1] : List (List Int))) (inner := [.slice A1 l1.length c1]) (ok := (fun k_ => (P1_ k_ ∨ w.heap.size ≤ k_))) (okp := (fun k_ => (P1_ k_ ∨ w.heap.size ≤ k_))) ?hr ?hp (fun _ hk => hk) ((show ∀ k_, w8.heap.size ≤ k_ → (fun k_ => (P1_ k_ ∨ w.heap.size ≤ k_)) k_ from fun k_ hk => (.inr (Nat.le_trans (below_size bB) hk))) _ (Nat.le_refl _)) (Below.refl _ _) (Nat.le_refl _) (by simp) ?_; (case hd => rfl); (case hg => rfl); (case hr => first | (go_simp; done) | (go_simp; rfl)); (case hp => exact (Reps.one (show Kd.FK (Kd.slice 3 (Kd.int .i64)) _ _ l1 [.slice A1 l1.length c1] from (Kd.FK_slice_mk (Kd.V_reads' (Kd.V_mono (ok' := (fun k_ => (P1_ k_ ∨ w.heap.size ≤ k_))) (HO1.out) (fun k_ hk => hk))).2.1 (Kd.V_F (Kd.V_mono (ok' := (fun k_ => (P1_ k_ ∨ w.heap.size ≤ k_))) (HO1.out) (fun k_ hk => hk))))) (Reps.none _ _))); intro v538 w9 ho10 hb hg_ hnew_; clear hg_ hnew_; (first | rw [← Ny537.out] at ho10 | (simp only [Int.reduceToNat] at ho10; rw [← Ny537.out] at ho10)); have n0_ := Aside0.mk (Kd.V_elder' (by (with_reducible repeat (first | apply Kd.V_alloc | apply Kd.V_drewN | apply Kd.V_drew)); exact HO1.out) (Kd.N_base ho10) hb); have n1_ := Aside0.mk (Kd.N_lower ho10 (below_size bB)); have n2_ := Aside0.mk (below_step bB hb); clear HO1; clear HB; have HO1 := n0_; have HO539 := n1_; have HB := n2_; clear n0_ n1_ n2_; clear hb ho10; obtain ⟨Ao11, co11, eo11⟩ := Kd.N_slice HO539.out; subst eo11) | (go_at_call 18; (with_reducible refine (path_Find.calls (hG := gK) k _ _ l0 _ _ y537 _ _ l2 0 t540 t541 _ ?side1 ?side2 ?side3 ?side4 ?side5 ?side6 A6.out).mono ?_); (case side1 => exact cK (Kd.C_below HR0.out HB.out)); (case side2 => exact HC0.out); (case side3 => exact cK ((Kd.N_reads' HO539.out).2.2)); (case side4 => exact (Kd.N_reads' HO539.out).2.1); (case side5 => exact cK (Kd.C_below HR2.out HB.out)); (case side6 => exact HC2.out); rintro e w12 ⟨v542, rfl, ho0, hb⟩; have n0_ := Aside0.mk (Kd.V_elder' (by (with_reducible repeat (first | apply Kd.V_alloc | apply Kd.V_drewN | apply Kd.V_drew)); exact HO1.out) (Kd.R_base ho0) hb); have n1_ := Aside0.mk (Kd.N_elder' (nK HO539) (Kd.R_base ho0) hb); have n2_ := Aside0.mk (Kd.R_lower (Kd.R_newM (M := fun k_ => (w.heap.size ≤ k_)) ho0 (below_size bB) (fun k_ h_ => h_)) (below_size bB)); have n3_ := Aside0.mk (below_step bB hb); clear HO1; clear HO539; clear HB; have HO1 := n0_; have HO539 := n1_; have HO543 := n2_; have HB := n3_; clear n0_ n1_ n2_ n3_; (try clear hb); (try clear hb2); (try clear hk); (try clear hi); (try clear ho0)))
  repeat (go_quiet (first | (go_at_call 16; (with_reducible refine (quaerelaw12_awake.calls (hG := gK) k  true _ A4.out).mono ?_); rintro e w8 ⟨rfl, hb⟩; have n0_ := Aside0.mk (Kd.V_below (by (with_reducible repeat (first | apply Kd.V_alloc | apply Kd.V_drewN | apply Kd.V_drew)); exact HO1.out) hb); have n1_ := Aside0.mk (below_step bB hb); clear HO1; clear HB; have HO1 := n0_; have HB := n1_; clear n0_ n1_; (try clear hb); (try clear hb2); (try clear hk); (try clear hi)) | ((with_reducible refine gate_dst (N := 22) rfl ?_); (try (refine gate_guard (by rfl) ?_; dsimp only)); refine Kd.N_lit (Kd.slice 3 (Kd.int .i64)) _ 23 ?hg (N' := 22) ?hd (xs := ([l1] : List (List Int))) (inner := [.slice A1 l1.length c1]) (ok := (fun k_ => (P1_ k_ ∨ w.heap.size ≤ k_))) (okp := (fun k_ => (P1_ k_ ∨ w.heap.size ≤ k_))) ?hr ?hp (fun _ hk => hk) ((show ∀ k_, w8.heap.size ≤ k_ → (fun k_ => (P1_ k_ ∨ w.heap.size ≤ k_)) k_ from fun k_ hk => (.inr (Nat.le_trans (below_size bB) hk))) _ (Nat.le_refl _)) (Below.refl _ _) (Nat.le_refl _) (by simp) ?_; (case hd => rfl); (case hg => rfl); (case hr => first | (go_simp; done) | (go_simp; rfl)); (case hp => exact (Reps.one (show Kd.FK (Kd.slice 3 (Kd.int .i64)) _ _ l1 [.slice A1 l1.length c1] from (Kd.FK_slice_mk (Kd.V_reads' (Kd.V_mono (ok' := (fun k_ => (P1_ k_ ∨ w.heap.size ≤ k_))) (HO1.out) (fun k_ hk => hk))).2.1 (Kd.V_F (Kd.V_mono (ok' := (fun k_ => (P1_ k_ ∨ w.heap.size ≤ k_))) (HO1.out) (fun k_ hk => hk))))) (Reps.none _ _))); intro v538 w9 ho10 hb hg_ hnew_; clear hg_ hnew_; (first | rw [← Ny537.out] at ho10 | (simp only [Int.reduceToNat] at ho10; rw [← Ny537.out] at ho10)); have n0_ := Aside0.mk (Kd.V_elder' (by (with_reducible repeat (first | apply Kd.V_alloc | apply Kd.V_drewN | apply Kd.V_drew)); exact HO1.out) (Kd.N_base ho10) hb); have n1_ := Aside0.mk (Kd.N_lower ho10 (below_size bB)); have n2_ := Aside0.mk (below_step bB hb); clear HO1; clear HB; have HO1 := n0_; have HO539 := n1_; have HB := n2_; clear n0_ n1_ n2_; clear hb ho10; obtain ⟨Ao11, co11, eo11⟩ := Kd.N_slice HO539.out; subst eo11) | (go_at_call 18; (with_reducible refine (path_Find.calls (hG := gK) k _ _ l0 _ _ y537 _ _ l2 0 t540 t541 _ ?side1 ?side2 ?side3 ?side4 ?side5 ?side6 A6.out).mono ?_); (case side1 => exact cK (Kd.C_below HR0.out HB.out)); (case side2 => exact HC0.out); (case side3 => exact cK ((Kd.N_reads' HO539.out).2.2)); (case side4 => exact (Kd.N_reads' HO539.out).2.1); (case side5 => exact cK (Kd.C_below HR2.out HB.out)); (case side6 => exact HC2.out); rintro e w12 ⟨v542, rfl, ho0, hb⟩; have n0_ := Aside0.mk (Kd.V_elder' (by (with_reducible repeat (first | apply Kd.V_alloc | apply Kd.V_drewN | apply Kd.V_drew)); exact HO1.out) (Kd.R_base ho0) hb); have n1_ := Aside0.mk (Kd.N_elder' (nK HO539) (Kd.R_base ho0) hb); have n2_ := Aside0.mk (Kd.R_lower (Kd.R_newM (M := fun k_ => (w.heap.size ≤ k_)) ho0 (below_size bB) (fun k_ h_ => h_)) (below_size bB)); have n3_ := Aside0.mk (below_step bB hb); clear HO1; clear HO539; clear HB; have HO1 := n0_; have HO539 := n1_; have HO543 := n2_; have HB := n3_; clear n0_ n1_ n2_ n3_; (try clear hb); (try clear hb2); (try clear hk); (try clear hi); (try clear ho0))); go_upto_region 4 with (first | (go_at_call 16; (with_reducible refine (quaerelaw12_awake.calls (hG := gK) k  true _ A4.out).mono ?_); rintro e w8 ⟨rfl, hb⟩; have n0_ := Aside0.mk (Kd.V_below (by (with_reducible repeat (first | apply Kd.V_alloc | apply Kd.V_drewN | apply Kd.V_drew)); exact HO1.out) hb); have n1_ := Aside0.mk (below_step bB hb); clear HO1; clear HB; have HO1 := n0_; have HB := n1_; clear n0_ n1_; (try clear hb); (try clear hb2); (try clear hk); (try clear hi)) | ((with_reducible refine gate_dst (N := 22) rfl ?_); (try (refine gate_guard (by rfl) ?_; dsimp only)); refine Kd.N_lit (Kd.slice 3 (Kd.int .i64)) _ 23 ?hg (N' := 22) ?hd (xs := ([l1] : List (List Int))) (inner := [.slice A1 l1.length c1]) (ok := (fun k_ => (P1_ k_ ∨ w.heap.size ≤ k_))) (okp := (fun k_ => (P1_ k_ ∨ w.heap.size ≤ k_))) ?hr ?hp (fun _ hk => hk) ((show ∀ k_, w8.heap.size ≤ k_ → (fun k_ => (P1_ k_ ∨ w.heap.size ≤ k_)) k_ from fun k_ hk => (.inr (Nat.le_trans (below_size bB) hk))) _ (Nat.le_refl _)) (Below.refl _ _) (Nat.le_refl _) (by simp) ?_; (case hd => rfl); (case hg => rfl); (case hr => first | (go_simp; done) | (go_simp; rfl)); (case hp => exact (Reps.one (show Kd.FK (Kd.slice 3 (Kd.int .i64)) _ _ l1 [.slice A1 l1.length c1] from (Kd.FK_slice_mk (Kd.V_reads' (Kd.V_mono (ok' := (fun k_ => (P1_ k_ ∨ w.heap.size ≤ k_))) (HO1.out) (fun k_ hk => hk))).2.1 (Kd.V_F (Kd.V_mono (ok' := (fun k_ => (P1_ k_ ∨ w.heap.size ≤ k_))) (HO1.out) (fun k_ hk => hk))))) (Reps.none _ _))); intro v538 w9 ho10 hb hg_ hnew_; clear hg_ hnew_; (first | rw [← Ny537.out] at ho10 | (simp only [Int.reduceToNat] at ho10; rw [← Ny537.out] at ho10)); have n0_ := Aside0.mk (Kd.V_elder' (by (with_reducible repeat (first | apply Kd.V_alloc | apply Kd.V_drewN | apply Kd.V_drew)); exact HO1.out) (Kd.N_base ho10) hb); have n1_ := Aside0.mk (Kd.N_lower ho10 (below_size bB)); have n2_ := Aside0.mk (below_step bB hb); clear HO1; clear HB; have HO1 := n0_; have HO539 := n1_; have HB := n2_; clear n0_ n1_ n2_; clear hb ho10; obtain ⟨Ao11, co11, eo11⟩ := Kd.N_slice HO539.out; subst eo11) | (go_at_call 18; (with_reducible refine (path_Find.calls (hG := gK) k _ _ l0 _ _ y537 _ _ l2 0 t540 t541 _ ?side1 ?side2 ?side3 ?side4 ?side5 ?side6 A6.out).mono ?_); (case side1 => exact cK (Kd.C_below HR0.out HB.out)); (case side2 => exact HC0.out); (case side3 => exact cK ((Kd.N_reads' HO539.out).2.2)); (case side4 => exact (Kd.N_reads' HO539.out).2.1); (case side5 => exact cK (Kd.C_below HR2.out HB.out)); (case side6 => exact HC2.out); rintro e w12 ⟨v542, rfl, ho0, hb⟩; have n0_ := Aside0.mk (Kd.V_elder' (by (with_reducible repeat (first | apply Kd.V_alloc | apply Kd.V_drewN | apply Kd.V_drew)); exact HO1.out) (Kd.R_base ho0) hb); have n1_ := Aside0.mk (Kd.N_elder' (nK HO539) (Kd.R_base ho0) hb); have n2_ := Aside0.mk (Kd.R_lower (Kd.R_newM (M := fun k_ => (w.heap.size ≤ k_)) ho0 (below_size bB) (fun k_ h_ => h_)) (below_size bB)); have n3_ := Aside0.mk (below_step bB hb); clear HO1; clear HO539; clear HB; have HO1 := n0_; have HO539 := n1_; have HO543 := n2_; have HB := n3_; clear n0_ n1_ n2_ n3_; (try clear hb); (try clear hb2); (try clear hk); (try clear hi); (try clear ho0))))
  (try simp only [Act.put, List.setIfInBounds_toArray, List.set_cons_zero, List.set_cons_succ])
  go_cut [39] (fun v39 wc => ∃ (kq : Nat) (x39_6 : Bool), v39 = .bool x39_6 ∧ Aside0 (quaerelaw12_PathApart.j0 kq l0 l1 l2 t540 x39_6 = some r) ∧ Aside0 (kq ≤ k) ∧ Aside0 (Kd.V (Kd.int .i64) 3 wc w.heap.size (fun k_ => (P1_ k_ ∨ w.heap.size ≤ k_) ∧ some k_ ≠ (v542 : Value).ownBlock) (.slice A1 l1.length c1) l1) ∧ Aside0 (Kd.R (Kd.int .i64) 3 wc w.heap.size (fun k_ => (w.heap.size ≤ k_)) v542 t540) ∧ Aside0 (Below w.heap.size w wc))
  case first =>
   have H := HC7.out
   clear HC7
   replace H := Option.bind_eq_some_iff.mp H
   obtain ⟨t544, A130, H⟩ := H
   replace H : (if t544 = 0 then (if (l1.length : Int) = 0 then (quaerelaw12_PathApart.j0 k l0 l1 l2 t540 true) else (quaerelaw12_PathApart.j0 k l0 l1 l2 t540 ((t540.length : Int) == 0))) else (quaerelaw12_PathApart.j0 k l0 l1 l2 t540 true)) = some r := H
   have A13 := Aside0.mk A130
   clear A130
   by_cases c14 : t544 = 0
   ·rw [if_pos c14] at H
    have c14b0 : (t544 == 0) = true := beq_iff_eq.mpr c14
    have c14b1 : (t544 != 0) = false := bne_eq_false_iff_eq.mpr c14
    clear c14
    (first | rw [c14b0] | (simp only [i64_w, i32_w]; rw [c14b0]) | skip)
    by_cases c15 : (l1.length : Int) = 0
    ·rw [if_pos c15] at H
     have c15b0 : ((l1.length : Int) == 0) = true := beq_iff_eq.mpr c15
     have c15b1 : ((l1.length : Int) != 0) = false := bne_eq_false_iff_eq.mpr c15
     clear c15
     have H' := Aside0.mk H
     clear H
     go_wp2_with (first | (go_at_call 13; (with_reducible refine (quaerelaw0_Num.calls t541 t544 _ A13.out).mono ?_); rintro e w' ⟨rfl, ⟨nd, rfl⟩⟩; (try first | exact ⟨rfl, _, World.drewN_drewN _ _ _⟩ | exact ⟨rfl, _, Eq.trans (World.drewN_drewN _ _ _) (congrArg (World.drewN _) (Nat.add_assoc _ _ _))⟩)))
     repeat (go_quiet (first | (go_at_call 13; (with_reducible refine (quaerelaw0_Num.calls t541 t544 _ A13.out).mono ?_); rintro e w' ⟨rfl, ⟨nd, rfl⟩⟩; (try first | exact ⟨rfl, _, World.drewN_drewN _ _ _⟩ | exact ⟨rfl, _, Eq.trans (World.drewN_drewN _ _ _) (congrArg (World.drewN _) (Nat.add_assoc _ _ _))⟩))); try go_wp2_with (first | (go_at_call 13; (with_reducible refine (quaerelaw0_Num.calls t541 t544 _ A13.out).mono ?_); rintro e w' ⟨rfl, ⟨nd, rfl⟩⟩; (try first | exact ⟨rfl, _, World.drewN_drewN _ _ _⟩ | exact ⟨rfl, _, Eq.trans (World.drewN_drewN _ _ _) (congrArg (World.drewN _) (Nat.add_assoc _ _ _))⟩))))
     go_meet
     case rel => exact ⟨_, (true), sK, H', ⟨by first | omega | exact Nat.le_refl _⟩, ⟨by (with_reducible repeat (first | apply Kd.V_alloc | apply Kd.V_drewN | apply Kd.V_drew)); exact Kd.V_mono HO1.out (fun _ hk => ⟨hk.1.1, hk.2⟩)⟩, ⟨by (with_reducible repeat (first | apply Kd.R_alloc | apply Kd.R_drewN | apply Kd.R_drew)); exact Kd.R_mono HO543.out (fun _ hk => hk.1)⟩, ⟨bB⟩⟩
    ·rw [if_neg c15] at H
     have c15b0 : ((l1.length : Int) == 0) = false := beq_eq_false_iff_ne.mpr c15
     have c15b1 : ((l1.length : Int) != 0) = true := bne_iff_ne.mpr c15
     have c15b2 : ¬ (l1 = []) := fun h_ => c15 (by rw [h_]; rfl)
     have H' := Aside0.mk H
     clear H
     go_wp2_with (first | (go_at_call 13; (with_reducible refine (quaerelaw0_Num.calls t541 t544 _ A13.out).mono ?_); rintro e w' ⟨rfl, ⟨nd, rfl⟩⟩; (try first | exact ⟨rfl, _, World.drewN_drewN _ _ _⟩ | exact ⟨rfl, _, Eq.trans (World.drewN_drewN _ _ _) (congrArg (World.drewN _) (Nat.add_assoc _ _ _))⟩); obtain ⟨Ao16, co16, eo16⟩ := Kd.R_slice HO543.out; subst eo16))
     repeat (go_quiet (first | (go_at_call 13; (with_reducible refine (quaerelaw0_Num.calls t541 t544 _ A13.out).mono ?_); rintro e w' ⟨rfl, ⟨nd, rfl⟩⟩; (try first | exact ⟨rfl, _, World.drewN_drewN _ _ _⟩ | exact ⟨rfl, _, Eq.trans (World.drewN_drewN _ _ _) (congrArg (World.drewN _) (Nat.add_assoc _ _ _))⟩); obtain ⟨Ao16, co16, eo16⟩ := Kd.R_slice HO543.out; subst eo16)); try go_wp2_with (first | (go_at_call 13; (with_reducible refine (quaerelaw0_Num.calls t541 t544 _ A13.out).mono ?_); rintro e w' ⟨rfl, ⟨nd, rfl⟩⟩; (try first | exact ⟨rfl, _, World.drewN_drewN _ _ _⟩ | exact ⟨rfl, _, Eq.trans (World.drewN_drewN _ _ _) (congrArg (World.drewN _) (Nat.add_assoc _ _ _))⟩); obtain ⟨Ao16, co16, eo16⟩ := Kd.R_slice HO543.out; subst eo16)))
     go_meet
     case rel => exact ⟨_, (((t540.length : Int) == 0)), sK, H', ⟨by first | omega | exact Nat.le_refl _⟩, ⟨by (with_reducible repeat (first | apply Kd.V_alloc | apply Kd.V_drewN | apply Kd.V_drew)); exact Kd.V_mono HO1.out (fun _ hk => ⟨hk.1.1, hk.2⟩)⟩, ⟨by (with_reducible repeat (first | apply Kd.R_alloc | apply Kd.R_drewN | apply Kd.R_drew)); exact Kd.R_mono HO543.out (fun _ hk => hk.1)⟩, ⟨bB⟩⟩
   ·rw [if_neg c14] at H
    have c14b0 : (t544 == 0) = false := beq_eq_false_iff_ne.mpr c14
    have c14b1 : (t544 != 0) = true := bne_iff_ne.mpr c14
    (first | rw [c14b0] | (simp only [i64_w, i32_w]; rw [c14b0]) | skip)
    have H' := Aside0.mk H
    clear H
    go_wp2_with (first | (go_at_call 13; (with_reducible refine (quaerelaw0_Num.calls t541 t544 _ A13.out).mono ?_); rintro e w' ⟨rfl, ⟨nd, rfl⟩⟩; (try first | exact ⟨rfl, _, World.drewN_drewN _ _ _⟩ | exact ⟨rfl, _, Eq.trans (World.drewN_drewN _ _ _) (congrArg (World.drewN _) (Nat.add_assoc _ _ _))⟩)))
    repeat (go_quiet (first | (go_at_call 13; (with_reducible refine (quaerelaw0_Num.calls t541 t544 _ A13.out).mono ?_); rintro e w' ⟨rfl, ⟨nd, rfl⟩⟩; (try first | exact ⟨rfl, _, World.drewN_drewN _ _ _⟩ | exact ⟨rfl, _, Eq.trans (World.drewN_drewN _ _ _) (congrArg (World.drewN _) (Nat.add_assoc _ _ _))⟩))); try go_wp2_with (first | (go_at_call 13; (with_reducible refine (quaerelaw0_Num.calls t541 t544 _ A13.out).mono ?_); rintro e w' ⟨rfl, ⟨nd, rfl⟩⟩; (try first | exact ⟨rfl, _, World.drewN_drewN _ _ _⟩ | exact ⟨rfl, _, Eq.trans (World.drewN_drewN _ _ _) (congrArg (World.drewN _) (Nat.add_assoc _ _ _))⟩))))
    go_meet
    case rel => exact ⟨_, (true), sK, H', ⟨by first | omega | exact Nat.le_refl _⟩, ⟨by (with_reducible repeat (first | apply Kd.V_alloc | apply Kd.V_drewN | apply Kd.V_drew)); exact Kd.V_mono HO1.out (fun _ hk => ⟨hk.1.1, hk.2⟩)⟩, ⟨by (with_reducible repeat (first | apply Kd.R_alloc | apply Kd.R_drewN | apply Kd.R_drew)); exact Kd.R_mono HO543.out (fun _ hk => hk.1)⟩, ⟨bB⟩⟩
  case rest =>
   clear HC7
   try clear c1
   try clear c2
   try clear p2
   try clear c5
   try clear c7
   try clear c14
   try clear c14b0
   try clear c14b1
   try clear c15
   try clear c15b0
   try clear c15b1
   try clear c15b2
   obtain ⟨kq, x39_6, rfl, HA, HJ6, HO_1, HO_7, HB⟩ := hcut
   cases kq with
   | zero => exact absurd HA.out (by simp [quaerelaw12_PathApart.j0])
   | succ kj6 =>
    have H := HA.out
    clear HA
    simp only [quaerelaw12_PathApart.j0] at H
    by_cases c17 : x39_6 = true
    ·subst c17
     have H1 : (some ((t540.length : Int) == 0)) = some r := by rw [if_pos rfl] at H; exact H
     clear H
     have H := H1
     clear H1
     obtain rfl := Option.some.inj H
     obtain ⟨Ao18, co18, eo18⟩ := Kd.R_slice HO_7.out
     subst eo18
     go_wp2
     repeat (go_quiet (fail); try go_wp2)
     go_ret
     exact ⟨eK, bB⟩
    ·replace c17 := Bool.eq_false_iff.mpr c17
     subst c17
     have H1 : ((path_Paths.f kj6 l0 l1).bind fun bt545 => ((path_Paths.f kj6 l0 l2).bind fun bt549 => ((quaerelaw0_Num.f bt545.2).bind fun t553 => (if t553 = 0 then ((quaerelaw0_Num.f bt549.2).bind fun t554 => (quaerelaw12_PathApart.j1 kj6 bt545.1 bt549.1 (t554 != 0))) else (quaerelaw12_PathApart.j1 kj6 bt545.1 bt549.1 true))))) = some r := by rw [if_neg (show ¬ (false = true) by decide)] at H; exact H
     clear H
     have H := H1
     clear H1
     replace H := Option.bind_eq_some_iff.mp H
     obtain ⟨⟨t545, t548⟩, A190, H⟩ := H
     replace H : ((path_Paths.f kj6 l0 l2).bind fun bt549 => ((quaerelaw0_Num.f t548).bind fun t553 => (if t553 = 0 then ((quaerelaw0_Num.f bt549.2).bind fun t554 => (quaerelaw12_PathApart.j1 kj6 t545 bt549.1 (t554 != 0))) else (quaerelaw12_PathApart.j1 kj6 t545 bt549.1 true)))) = some r := H
     have A19 := Aside0.mk A190
     clear A190
     replace H := Option.bind_eq_some_iff.mp H
     obtain ⟨⟨t549, t552⟩, A200, H⟩ := H
     replace H : ((quaerelaw0_Num.f t548).bind fun t553 => (if t553 = 0 then ((quaerelaw0_Num.f t552).bind fun t554 => (quaerelaw12_PathApart.j1 kj6 t545 t549 (t554 != 0))) else (quaerelaw12_PathApart.j1 kj6 t545 t549 true))) = some r := H
     have A20 := Aside0.mk A200
     clear A200
     have HC21 := Aside0.mk H
     clear H
     go_upto_region 8 with (first | (go_at_call 10; (with_reducible refine (path_Paths.calls (hG := gK) kj6 _ _ l0 _ _ l1 t545 t548 _ ?side1 ?side2 ?side3 ?side4 A19.out).mono ?_); (case side1 => exact cK (Kd.C_below HR0.out HB.out)); (case side2 => exact HC0.out); (case side3 => exact cK ((Kd.V_reads' HO_1.out).2.2)); (case side4 => exact (Kd.V_reads' HO_1.out).2.1); rintro e w22 ⟨v546, rfl, ho0, hb⟩; have n0_ := Aside0.mk (Kd.V_elder' (by (with_reducible repeat (first | apply Kd.V_alloc | apply Kd.V_drewN | apply Kd.V_drew)); exact HO_1.out) (by first | exact Kd.N_base ho0 | exact Kd.S_base ho0) hb); have n1_ := Aside0.mk (Kd.R_below (rK HO_7) hb); have n2_ := Aside0.mk (Kd.N_lower (Kd.N_mono (ok' := fun k_ => (P1_ k_ ∨ w.heap.size ≤ k_) ∧ some k_ ≠ (v542 : Value).ownBlock) ho0 (fun k_ hk_ => ⟨(.inr (Nat.le_trans (below_size bB) hk_)), (Kd.fresh' (Kd.R_lt (rK HO_7)) k_ hk_)⟩)) (below_size bB)); have n3_ := Aside0.mk (below_step bB hb); clear HO_1; clear HO_7; clear HB; have HO_1 := n0_; have HO_7 := n1_; have HO547 := n2_; have HB := n3_; clear n0_ n1_ n2_ n3_; (try clear hb); (try clear hb2); (try clear hk); (try clear hi); (try clear ho0)) | (go_at_call 10; (with_reducible refine (path_Paths.calls (hG := gK) kj6 _ _ l0 _ _ l2 t549 t552 _ ?side1 ?side2 ?side3 ?side4 A20.out).mono ?_); (case side1 => exact cK (Kd.C_below HR0.out HB.out)); (case side2 => exact HC0.out); (case side3 => exact cK (Kd.C_below HR2.out HB.out)); (case side4 => exact HC2.out); rintro e w23 ⟨v550, rfl, ho0, hb⟩; have n0_ := Aside0.mk (Kd.V_elder' (by (with_reducible repeat (first | apply Kd.V_alloc | apply Kd.V_drewN | apply Kd.V_drew)); exact HO_1.out) (by first | exact Kd.N_base ho0 | exact Kd.S_base ho0) hb); have n1_ := Aside0.mk (Kd.R_below (rK HO_7) hb); have n2_ := Aside0.mk (Kd.N_elder' (nK HO547) (by first | exact Kd.N_base ho0 | exact Kd.S_base ho0) hb); have n3_ := Aside0.mk (Kd.N_lower (Kd.N_mono (ok' := fun k_ => (P1_ k_ ∨ w.heap.size ≤ k_) ∧ some k_ ≠ (v542 : Value).ownBlock ∧ some k_ ≠ (v546 : Value).ownBlock) ho0 (fun k_ hk_ => ⟨(.inr (Nat.le_trans (below_size bB) hk_)), (Kd.fresh' (Kd.R_lt (rK HO_7)) k_ hk_), (Kd.fresh' (Kd.N_lt (nK HO547)) k_ hk_)⟩)) (below_size bB)); have n4_ := Aside0.mk (below_step bB hb); clear HO_1; clear HO_7; clear HO547; clear HB; have HO_1 := n0_; have HO_7 := n1_; have HO547 := n2_; have HO551 := n3_; have HB := n4_; clear n0_ n1_ n2_ n3_ n4_; (try clear hb); (try clear hb2); (try clear hk); (try clear hi); (try clear ho0)))
     repeat (go_quiet (first | (go_at_call 10; (with_reducible refine (path_Paths.calls (hG := gK) kj6 _ _ l0 _ _ l1 t545 t548 _ ?side1 ?side2 ?side3 ?side4 A19.out).mono ?_); (case side1 => exact cK (Kd.C_below HR0.out HB.out)); (case side2 => exact HC0.out); (case side3 => exact cK ((Kd.V_reads' HO_1.out).2.2)); (case side4 => exact (Kd.V_reads' HO_1.out).2.1); rintro e w22 ⟨v546, rfl, ho0, hb⟩; have n0_ := Aside0.mk (Kd.V_elder' (by (with_reducible repeat (first | apply Kd.V_alloc | apply Kd.V_drewN | apply Kd.V_drew)); exact HO_1.out) (by first | exact Kd.N_base ho0 | exact Kd.S_base ho0) hb); have n1_ := Aside0.mk (Kd.R_below (rK HO_7) hb); have n2_ := Aside0.mk (Kd.N_lower (Kd.N_mono (ok' := fun k_ => (P1_ k_ ∨ w.heap.size ≤ k_) ∧ some k_ ≠ (v542 : Value).ownBlock) ho0 (fun k_ hk_ => ⟨(.inr (Nat.le_trans (below_size bB) hk_)), (Kd.fresh' (Kd.R_lt (rK HO_7)) k_ hk_)⟩)) (below_size bB)); have n3_ := Aside0.mk (below_step bB hb); clear HO_1; clear HO_7; clear HB; have HO_1 := n0_; have HO_7 := n1_; have HO547 := n2_; have HB := n3_; clear n0_ n1_ n2_ n3_; (try clear hb); (try clear hb2); (try clear hk); (try clear hi); (try clear ho0)) | (go_at_call 10; (with_reducible refine (path_Paths.calls (hG := gK) kj6 _ _ l0 _ _ l2 t549 t552 _ ?side1 ?side2 ?side3 ?side4 A20.out).mono ?_); (case side1 => exact cK (Kd.C_below HR0.out HB.out)); (case side2 => exact HC0.out); (case side3 => exact cK (Kd.C_below HR2.out HB.out)); (case side4 => exact HC2.out); rintro e w23 ⟨v550, rfl, ho0, hb⟩; have n0_ := Aside0.mk (Kd.V_elder' (by (with_reducible repeat (first | apply Kd.V_alloc | apply Kd.V_drewN | apply Kd.V_drew)); exact HO_1.out) (by first | exact Kd.N_base ho0 | exact Kd.S_base ho0) hb); have n1_ := Aside0.mk (Kd.R_below (rK HO_7) hb); have n2_ := Aside0.mk (Kd.N_elder' (nK HO547) (by first | exact Kd.N_base ho0 | exact Kd.S_base ho0) hb); have n3_ := Aside0.mk (Kd.N_lower (Kd.N_mono (ok' := fun k_ => (P1_ k_ ∨ w.heap.size ≤ k_) ∧ some k_ ≠ (v542 : Value).ownBlock ∧ some k_ ≠ (v546 : Value).ownBlock) ho0 (fun k_ hk_ => ⟨(.inr (Nat.le_trans (below_size bB) hk_)), (Kd.fresh' (Kd.R_lt (rK HO_7)) k_ hk_), (Kd.fresh' (Kd.N_lt (nK HO547)) k_ hk_)⟩)) (below_size bB)); have n4_ := Aside0.mk (below_step bB hb); clear HO_1; clear HO_7; clear HO547; clear HB; have HO_1 := n0_; have HO_7 := n1_; have HO547 := n2_; have HO551 := n3_; have HB := n4_; clear n0_ n1_ n2_ n3_ n4_; (try clear hb); (try clear hb2); (try clear hk); (try clear hi); (try clear ho0))); go_upto_region 8 with (first | (go_at_call 10; (with_reducible refine (path_Paths.calls (hG := gK) kj6 _ _ l0 _ _ l1 t545 t548 _ ?side1 ?side2 ?side3 ?side4 A19.out).mono ?_); (case side1 => exact cK (Kd.C_below HR0.out HB.out)); (case side2 => exact HC0.out); (case side3 => exact cK ((Kd.V_reads' HO_1.out).2.2)); (case side4 => exact (Kd.V_reads' HO_1.out).2.1); rintro e w22 ⟨v546, rfl, ho0, hb⟩; have n0_ := Aside0.mk (Kd.V_elder' (by (with_reducible repeat (first | apply Kd.V_alloc | apply Kd.V_drewN | apply Kd.V_drew)); exact HO_1.out) (by first | exact Kd.N_base ho0 | exact Kd.S_base ho0) hb); have n1_ := Aside0.mk (Kd.R_below (rK HO_7) hb); have n2_ := Aside0.mk (Kd.N_lower (Kd.N_mono (ok' := fun k_ => (P1_ k_ ∨ w.heap.size ≤ k_) ∧ some k_ ≠ (v542 : Value).ownBlock) ho0 (fun k_ hk_ => ⟨(.inr (Nat.le_trans (below_size bB) hk_)), (Kd.fresh' (Kd.R_lt (rK HO_7)) k_ hk_)⟩)) (below_size bB)); have n3_ := Aside0.mk (below_step bB hb); clear HO_1; clear HO_7; clear HB; have HO_1 := n0_; have HO_7 := n1_; have HO547 := n2_; have HB := n3_; clear n0_ n1_ n2_ n3_; (try clear hb); (try clear hb2); (try clear hk); (try clear hi); (try clear ho0)) | (go_at_call 10; (with_reducible refine (path_Paths.calls (hG := gK) kj6 _ _ l0 _ _ l2 t549 t552 _ ?side1 ?side2 ?side3 ?side4 A20.out).mono ?_); (case side1 => exact cK (Kd.C_below HR0.out HB.out)); (case side2 => exact HC0.out); (case side3 => exact cK (Kd.C_below HR2.out HB.out)); (case side4 => exact HC2.out); rintro e w23 ⟨v550, rfl, ho0, hb⟩; have n0_ := Aside0.mk (Kd.V_elder' (by (with_reducible repeat (first | apply Kd.V_alloc | apply Kd.V_drewN | apply Kd.V_drew)); exact HO_1.out) (by first | exact Kd.N_base ho0 | exact Kd.S_base ho0) hb); have n1_ := Aside0.mk (Kd.R_below (rK HO_7) hb); have n2_ := Aside0.mk (Kd.N_elder' (nK HO547) (by first | exact Kd.N_base ho0 | exact Kd.S_base ho0) hb); have n3_ := Aside0.mk (Kd.N_lower (Kd.N_mono (ok' := fun k_ => (P1_ k_ ∨ w.heap.size ≤ k_) ∧ some k_ ≠ (v542 : Value).ownBlock ∧ some k_ ≠ (v546 : Value).ownBlock) ho0 (fun k_ hk_ => ⟨(.inr (Nat.le_trans (below_size bB) hk_)), (Kd.fresh' (Kd.R_lt (rK HO_7)) k_ hk_), (Kd.fresh' (Kd.N_lt (nK HO547)) k_ hk_)⟩)) (below_size bB)); have n4_ := Aside0.mk (below_step bB hb); clear HO_1; clear HO_7; clear HO547; clear HB; have HO_1 := n0_; have HO_7 := n1_; have HO547 := n2_; have HO551 := n3_; have HB := n4_; clear n0_ n1_ n2_ n3_ n4_; (try clear hb); (try clear hb2); (try clear hk); (try clear hi); (try clear ho0))))
     (try simp only [Act.put, List.setIfInBounds_toArray, List.set_cons_zero, List.set_cons_succ])
     go_cut [62] (fun v62 wc => ∃ (kq : Nat) (x62_20 : Bool), v62 = .bool x62_20 ∧ Aside0 (quaerelaw12_PathApart.j1 kq t545 t549 x62_20 = some r) ∧ Aside0 (kq ≤ kj6) ∧ Aside0 (Kd.N (Kd.slice 3 (Kd.int .i64)) 23 wc w.heap.size (fun k_ => (P1_ k_ ∨ w.heap.size ≤ k_) ∧ some k_ ≠ (v550 : Value).ownBlock) v546 t545) ∧ Aside0 (Kd.N (Kd.slice 3 (Kd.int .i64)) 23 wc w.heap.size (fun k_ => (P1_ k_ ∨ w.heap.size ≤ k_) ∧ some k_ ≠ (v546 : Value).ownBlock) v550 t549) ∧ Aside0 (Below w.heap.size w wc))
     case first =>
      have H := HC21.out
      clear HC21
      replace H := Option.bind_eq_some_iff.mp H
      obtain ⟨t553, A240, H⟩ := H
      replace H : (if t553 = 0 then ((quaerelaw0_Num.f t552).bind fun t554 => (quaerelaw12_PathApart.j1 kj6 t545 t549 (t554 != 0))) else (quaerelaw12_PathApart.j1 kj6 t545 t549 true)) = some r := H
      have A24 := Aside0.mk A240
      clear A240
      by_cases c25 : t553 = 0
      ·rw [if_pos c25] at H
       have c25b0 : (t553 == 0) = true := beq_iff_eq.mpr c25
       have c25b1 : (t553 != 0) = false := bne_eq_false_iff_eq.mpr c25
       clear c25
       (first | rw [c25b0] | (simp only [i64_w, i32_w]; rw [c25b0]) | skip)
       replace H := Option.bind_eq_some_iff.mp H
       obtain ⟨t554, A260, H⟩ := H
       replace H : (quaerelaw12_PathApart.j1 kj6 t545 t549 (t554 != 0)) = some r := H
       have A26 := Aside0.mk A260
       clear A260
       have H' := Aside0.mk H
       clear H
       go_wp2_with (first | (go_at_call 13; (with_reducible refine (quaerelaw0_Num.calls t548 t553 _ A24.out).mono ?_); rintro e w' ⟨rfl, ⟨nd, rfl⟩⟩; (try first | exact ⟨rfl, _, World.drewN_drewN _ _ _⟩ | exact ⟨rfl, _, Eq.trans (World.drewN_drewN _ _ _) (congrArg (World.drewN _) (Nat.add_assoc _ _ _))⟩)) | (go_at_call 13; (with_reducible refine (quaerelaw0_Num.calls t552 t554 _ A26.out).mono ?_); rintro e w' ⟨rfl, ⟨nd, rfl⟩⟩; (try first | exact ⟨rfl, _, World.drewN_drewN _ _ _⟩ | exact ⟨rfl, _, Eq.trans (World.drewN_drewN _ _ _) (congrArg (World.drewN _) (Nat.add_assoc _ _ _))⟩)))
       repeat (go_quiet (first | (go_at_call 13; (with_reducible refine (quaerelaw0_Num.calls t548 t553 _ A24.out).mono ?_); rintro e w' ⟨rfl, ⟨nd, rfl⟩⟩; (try first | exact ⟨rfl, _, World.drewN_drewN _ _ _⟩ | exact ⟨rfl, _, Eq.trans (World.drewN_drewN _ _ _) (congrArg (World.drewN _) (Nat.add_assoc _ _ _))⟩)) | (go_at_call 13; (with_reducible refine (quaerelaw0_Num.calls t552 t554 _ A26.out).mono ?_); rintro e w' ⟨rfl, ⟨nd, rfl⟩⟩; (try first | exact ⟨rfl, _, World.drewN_drewN _ _ _⟩ | exact ⟨rfl, _, Eq.trans (World.drewN_drewN _ _ _) (congrArg (World.drewN _) (Nat.add_assoc _ _ _))⟩))); try go_wp2_with (first | (go_at_call 13; (with_reducible refine (quaerelaw0_Num.calls t548 t553 _ A24.out).mono ?_); rintro e w' ⟨rfl, ⟨nd, rfl⟩⟩; (try first | exact ⟨rfl, _, World.drewN_drewN _ _ _⟩ | exact ⟨rfl, _, Eq.trans (World.drewN_drewN _ _ _) (congrArg (World.drewN _) (Nat.add_assoc _ _ _))⟩)) | (go_at_call 13; (with_reducible refine (quaerelaw0_Num.calls t552 t554 _ A26.out).mono ?_); rintro e w' ⟨rfl, ⟨nd, rfl⟩⟩; (try first | exact ⟨rfl, _, World.drewN_drewN _ _ _⟩ | exact ⟨rfl, _, Eq.trans (World.drewN_drewN _ _ _) (congrArg (World.drewN _) (Nat.add_assoc _ _ _))⟩))))
       go_meet
       case rel => exact ⟨_, ((t554 != 0)), sK, H', ⟨by have := HJ6.out; first | omega | exact Nat.le_refl _⟩, ⟨by (with_reducible repeat (first | apply Kd.N_alloc | apply Kd.N_drewN | apply Kd.N_drew)); exact Kd.N_mono HO547.out (fun _ hk => ⟨hk.1.1, hk.2⟩)⟩, ⟨by (with_reducible repeat (first | apply Kd.N_alloc | apply Kd.N_drewN | apply Kd.N_drew)); exact Kd.N_mono HO551.out (fun _ hk => ⟨hk.1, hk.2.2⟩)⟩, ⟨bB⟩⟩
      ·rw [if_neg c25] at H
       have c25b0 : (t553 == 0) = false := beq_eq_false_iff_ne.mpr c25
       have c25b1 : (t553 != 0) = true := bne_iff_ne.mpr c25
       (first | rw [c25b0] | (simp only [i64_w, i32_w]; rw [c25b0]) | skip)
       have H' := Aside0.mk H
       clear H
       go_wp2_with (first | (go_at_call 13; (with_reducible refine (quaerelaw0_Num.calls t548 t553 _ A24.out).mono ?_); rintro e w' ⟨rfl, ⟨nd, rfl⟩⟩; (try first | exact ⟨rfl, _, World.drewN_drewN _ _ _⟩ | exact ⟨rfl, _, Eq.trans (World.drewN_drewN _ _ _) (congrArg (World.drewN _) (Nat.add_assoc _ _ _))⟩)))
       repeat (go_quiet (first | (go_at_call 13; (with_reducible refine (quaerelaw0_Num.calls t548 t553 _ A24.out).mono ?_); rintro e w' ⟨rfl, ⟨nd, rfl⟩⟩; (try first | exact ⟨rfl, _, World.drewN_drewN _ _ _⟩ | exact ⟨rfl, _, Eq.trans (World.drewN_drewN _ _ _) (congrArg (World.drewN _) (Nat.add_assoc _ _ _))⟩))); try go_wp2_with (first | (go_at_call 13; (with_reducible refine (quaerelaw0_Num.calls t548 t553 _ A24.out).mono ?_); rintro e w' ⟨rfl, ⟨nd, rfl⟩⟩; (try first | exact ⟨rfl, _, World.drewN_drewN _ _ _⟩ | exact ⟨rfl, _, Eq.trans (World.drewN_drewN _ _ _) (congrArg (World.drewN _) (Nat.add_assoc _ _ _))⟩))))
       go_meet
       case rel => exact ⟨_, (true), sK, H', ⟨by have := HJ6.out; first | omega | exact Nat.le_refl _⟩, ⟨by (with_reducible repeat (first | apply Kd.N_alloc | apply Kd.N_drewN | apply Kd.N_drew)); exact Kd.N_mono HO547.out (fun _ hk => ⟨hk.1.1, hk.2⟩)⟩, ⟨by (with_reducible repeat (first | apply Kd.N_alloc | apply Kd.N_drewN | apply Kd.N_drew)); exact Kd.N_mono HO551.out (fun _ hk => ⟨hk.1, hk.2.2⟩)⟩, ⟨bB⟩⟩
     case rest =>
      clear HC21
      try clear c1
      try clear c2
      try clear p2
      try clear c5
      try clear c7
      try clear c14
      try clear c14b0
      try clear c14b1
      try clear c15
      try clear c15b0
      try clear c15b1
      try clear c15b2
      try clear c17
      try clear c25
      try clear c25b0
      try clear c25b1
      try clear p2
      obtain ⟨kq, x62_20, rfl, HA, HJ20, HO_9, HO_11, HB⟩ := hcut
      cases kq with
      | zero => exact absurd HA.out (by simp [quaerelaw12_PathApart.j1])
      | succ kj20 =>
       have H := HA.out
       clear HA
       simp only [quaerelaw12_PathApart.j1] at H
       by_cases c27 : x62_20 = true
       ·subst c27
        have H1 : (some false) = some r := by rw [if_pos rfl] at H; exact H
        clear H
        have H := H1
        clear H1
        obtain rfl := Option.some.inj H
        go_wp2
        repeat (go_quiet (fail); try go_wp2)
        go_ret
        exact ⟨eK, bB⟩
       ·replace c27 := Bool.eq_false_iff.mpr c27
        subst c27
        have H1 : (quaerelaw12_PathApart.l0 kj20 t545 t549 0) = some r := by rw [if_neg (show ¬ (false = true) by decide)] at H; exact H
        clear H
        have H := H1
        clear H1
        have H' := Aside0.mk H
        clear H
        go_wp2
        repeat (go_quiet (fail); try go_wp2)
        go_loopg [13] kj20 (fun kq v13 w' => ∃ (x13_3 : Int), v13 = .int .i64 x13_3 ∧ Aside0 (quaerelaw12_PathApart.l0 kq t545 t549 x13_3 = some r) ∧ Aside0 (kq ≤ kj20) ∧ Aside0 (Kd.N (Kd.slice 3 (Kd.int .i64)) 23 w' w.heap.size (fun k_ => (P1_ k_ ∨ w.heap.size ≤ k_) ∧ some k_ ≠ (v550 : Value).ownBlock) v546 t545) ∧ Aside0 (Kd.N (Kd.slice 3 (Kd.int .i64)) 23 w' w.heap.size (fun k_ => (P1_ k_ ∨ w.heap.size ≤ k_) ∧ some k_ ≠ (v546 : Value).ownBlock) v550 t549) ∧ Aside0 (Below w.heap.size w w'))
        case atStart => exact ⟨(0), sK, H', ⟨Nat.le_refl _⟩, ⟨by (with_reducible repeat (first | apply Kd.N_alloc | apply Kd.N_drewN | apply Kd.N_drew)); exact HO_9.out⟩, ⟨by (with_reducible repeat (first | apply Kd.N_alloc | apply Kd.N_drewN | apply Kd.N_drew)); exact HO_11.out⟩, ⟨bB⟩⟩
        case round =>
         clear H'
         try clear c1
         try clear c2
         try clear p2
         try clear c5
         try clear c7
         try clear c14
         try clear c14b0
         try clear c14b1
         try clear c15
         try clear c15b0
         try clear c15b1
         try clear c15b2
         try clear c17
         try clear c25
         try clear c25b0
         try clear c25b1
         try clear c27
         try clear p2
         obtain ⟨x13_3, rfl, HA, HK3, HO_9, HO_11, HB⟩ := hrel
         cases gk with
         | zero => exact absurd HA.out (by simp [quaerelaw12_PathApart.l0])
         | succ k3 =>
          have H := HA.out
          clear HA
          simp only [quaerelaw12_PathApart.l0] at H
          by_cases c28 : x13_3 < (t545.length : Int)
          ·rw [if_pos c28] at H
           have c28b0 : decide (x13_3 < (t545.length : Int)) = true := decide_eq_true c28
           clear c28
           have H' := Aside0.mk H
           clear H
           obtain ⟨Ao29, co29, eo29⟩ := Kd.N_slice HO_9.out
           subst eo29
           go_wp2
           repeat (go_quiet (fail); try go_wp2)
           go_loopg [14] k3 (fun kq v14 w' => ∃ (x14_4 : Int), v14 = .int .i64 x14_4 ∧ Aside0 (quaerelaw12_PathApart.l1 kq t545 t549 x13_3 x14_4 = some r) ∧ Aside0 (kq ≤ k3) ∧ Aside0 (Kd.N (Kd.slice 3 (Kd.int .i64)) 23 w' w.heap.size (fun k_ => (P1_ k_ ∨ w.heap.size ≤ k_) ∧ some k_ ≠ (v550 : Value).ownBlock) (.slice Ao29 t545.length co29) t545) ∧ Aside0 (Kd.N (Kd.slice 3 (Kd.int .i64)) 23 w' w.heap.size (fun k_ => (P1_ k_ ∨ w.heap.size ≤ k_) ∧ some k_ ≠ ((.slice Ao29 t545.length co29) : Value).ownBlock) v550 t549) ∧ Aside0 (Below w.heap.size w w'))
           case atStart => exact ⟨(0), sK, H', ⟨Nat.le_refl _⟩, ⟨by (with_reducible repeat (first | apply Kd.N_alloc | apply Kd.N_drewN | apply Kd.N_drew)); exact HO_9.out⟩, ⟨by (with_reducible repeat (first | apply Kd.N_alloc | apply Kd.N_drewN | apply Kd.N_drew)); exact HO_11.out⟩, ⟨bB⟩⟩
           case round =>
            clear H'
            try clear c1
            try clear c2
            try clear p2
            try clear c5
            try clear c7
            try clear c14
            try clear c14b0
            try clear c14b1
            try clear c15
            try clear c15b0
            try clear c15b1
            try clear c15b2
            try clear c17
            try clear c25
            try clear c25b0
            try clear c25b1
            try clear c27
            try clear c28
            try clear c28b0
            try clear p2
            obtain ⟨x14_4, rfl, HA, HK4, HO_9, HO_11, HB⟩ := hrel
            cases gk with
            | zero => exact absurd HA.out (by simp [quaerelaw12_PathApart.l1])
            | succ k4 =>
             have H := HA.out
             clear HA
             simp only [quaerelaw12_PathApart.l1] at H
             by_cases c30 : x14_4 < (t549.length : Int)
             ·rw [if_pos c30] at H
              have c30b0 : decide (x14_4 < (t549.length : Int)) = true := decide_eq_true c30
              clear c30
              by_cases c31 : 0 ≤ x13_3
              ·rw [if_pos c31] at H
               have c31b0 : decide (0 ≤ x13_3) = true := decide_eq_true c31
               clear c31
               by_cases c32 : x13_3 < (t545.length : Int)
               ·rw [if_pos c32] at H
                have c32b0 : decide (x13_3 < (t545.length : Int)) = true := decide_eq_true c32
                clear c32
                by_cases c33 : 0 ≤ x14_4
                ·rw [if_pos c33] at H
                 have c33b0 : decide (0 ≤ x14_4) = true := decide_eq_true c33
                 clear c33
                 have HC34 := Aside0.mk H
                 clear H
                 obtain ⟨Ao35, co35, eo35⟩ := Kd.N_slice HO_11.out
                 subst eo35
                 have p555 : 0 ≤ (x13_3 : Int) := of_decide_eq_true aK
                 have q555 : x13_3 < (t545.length : Int) := of_decide_eq_true aK
                 obtain ⟨ad555, A555_0, c555_0, e555, hx555_0, hl555_0, hi555_0⟩ := at_L3 (Kd.N_reads' HO_9.out).2.2 x13_3 p555 q555
                 cases e555
                 obtain ⟨ce555, hce555, hMe555, hcc555⟩ := Kd.N_get HO_9.out [] x13_3 p555 (by first | exact q555 | exact of_decide_eq_true aK | (have e_ := (Kd.N_reads' HO_9.out).1; omega))
                 obtain ⟨ua555_0, uc555_0, rfl, ul555_0, ge555_0⟩ := Kd.FK_slice_open hMe555
                 have hv555_0 := hcc555 0 _ rfl
                 rw [Nat.add_zero, show ((Kd.slice 3 (Kd.int .i64))).sz = 1 from rfl, Nat.mul_one] at hv555_0
                 replace hv555_0 := Option.some.inj (hv555_0.symm.trans hx555_0)
                 injection hv555_0 with hva_ hvn_ hvc_
                 rw [hva_] at ge555_0
                 rw [hvc_] at ul555_0
                 have HL555_0 := Aside0.mk (show Kd.V (Kd.int .i64) 3 _ w.heap.size _ _ (rd_L3 t545 x13_3) from Kd.V_mk ul555_0 ge555_0)
                 clear hva_ hvn_ hvc_ ge555_0 ul555_0 hcc555 hce555
                 have HR555_0 := Aside0.mk hi555_0
                 have HC555_0 := Aside0.mk hl555_0
                 clear hi555_0 hl555_0
                 replace p555 := eq_true p555
                 replace q555 := eq_true q555
                 have p556 : 0 ≤ (x14_4 : Int) := of_decide_eq_true aK
                 have q556 : x14_4 < (t549.length : Int) := of_decide_eq_true aK
                 obtain ⟨ad556, A556_0, c556_0, e556, hx556_0, hl556_0, hi556_0⟩ := at_L3 (Kd.N_reads' HO_11.out).2.2 x14_4 p556 q556
                 cases e556
                 obtain ⟨ce556, hce556, hMe556, hcc556⟩ := Kd.N_get HO_11.out [] x14_4 p556 (by first | exact q556 | exact of_decide_eq_true aK | (have e_ := (Kd.N_reads' HO_11.out).1; omega))
                 obtain ⟨ua556_0, uc556_0, rfl, ul556_0, ge556_0⟩ := Kd.FK_slice_open hMe556
                 have hv556_0 := hcc556 0 _ rfl
                 rw [Nat.add_zero, show ((Kd.slice 3 (Kd.int .i64))).sz = 1 from rfl, Nat.mul_one] at hv556_0
                 replace hv556_0 := Option.some.inj (hv556_0.symm.trans hx556_0)
                 injection hv556_0 with hva_ hvn_ hvc_
                 rw [hva_] at ge556_0
                 rw [hvc_] at ul556_0
                 have HL556_0 := Aside0.mk (show Kd.V (Kd.int .i64) 3 _ w.heap.size _ _ (rd_L3 t549 x14_4) from Kd.V_mk ul556_0 ge556_0)
                 clear hva_ hvn_ hvc_ ge556_0 ul556_0 hcc556 hce556
                 have HR556_0 := Aside0.mk hi556_0
                 have HC556_0 := Aside0.mk hl556_0
                 clear hi556_0 hl556_0
                 replace p556 := eq_true p556
                 replace q556 := eq_true q556
                 go_upto_region 17 with (fail)
                 repeat (go_quiet (fail); go_upto_region 17 with (fail))
                 go_cut [92] (fun v92 wc => ∃ (kq : Nat) (x92_33 : Bool), v92 = .bool x92_33 ∧ Aside0 (quaerelaw12_PathApart.j4 kq t545 t549 x13_3 x14_4 (wrap64 (((rd_L3 t545 x13_3).length : Int) - 1)) (wrap64 (((rd_L3 t549 x14_4).length : Int) - 1)) x92_33 = some r) ∧ Aside0 (kq ≤ k4) ∧ Aside0 (Kd.N (Kd.slice 3 (Kd.int .i64)) 23 wc w.heap.size (fun k_ => (P1_ k_ ∨ w.heap.size ≤ k_) ∧ some k_ ≠ ((.slice (some ad556) t549.length co35) : Value).ownBlock) (.slice (some ad555) t545.length co29) t545) ∧ Aside0 (Kd.N (Kd.slice 3 (Kd.int .i64)) 23 wc w.heap.size (fun k_ => (P1_ k_ ∨ w.heap.size ≤ k_) ∧ some k_ ≠ ((.slice (some ad555) t545.length co29) : Value).ownBlock) (.slice (some ad556) t549.length co35) t549) ∧ Aside0 (Kd.C (Kd.int .i64) wc A555_0 (rd_L3 t545 x13_3).length (rd_L3 t545 x13_3)) ∧ Aside0 (Kd.C (Kd.int .i64) wc A556_0 (rd_L3 t549 x14_4).length (rd_L3 t549 x14_4)) ∧ Aside0 (Below w.heap.size w wc))
                 case first =>
                  have H := HC34.out
                  clear HC34
                  by_cases c36 : (wrap64 (((rd_L3 t545 x13_3).length : Int) - 1)) < 0
                  ·rw [if_pos c36] at H
                   have c36b0 : decide ((wrap64 (((rd_L3 t545 x13_3).length : Int) - 1)) < 0) = true := decide_eq_true c36
                   clear c36
                   (first | rw [c36b0] | (simp only [i64_w, i32_w]; rw [c36b0]) | skip)
                   have H' := Aside0.mk H
                   clear H
                   go_wp2
                   repeat (go_quiet (fail); try go_wp2)
                   go_meet
                   case rel => exact ⟨_, (true), sK, H', ⟨by have := HJ6.out; have := HJ20.out; have := HK3.out; have := HK4.out; first | omega | exact Nat.le_refl _⟩, ⟨by (with_reducible repeat (first | apply Kd.N_alloc | apply Kd.N_drewN | apply Kd.N_drew)); exact HO_9.out⟩, ⟨by (with_reducible repeat (first | apply Kd.N_alloc | apply Kd.N_drewN | apply Kd.N_drew)); exact HO_11.out⟩, ⟨by repeat (first | (with_reducible exact HR555_0.out) | (with_reducible refine Kd.C_alloc ?_ _) | (with_reducible refine Kd.C_drewN ?_ _) | (with_reducible refine Kd.C_drew ?_) | exact HR555_0.out)⟩, ⟨by repeat (first | (with_reducible exact HR556_0.out) | (with_reducible refine Kd.C_alloc ?_ _) | (with_reducible refine Kd.C_drewN ?_ _) | (with_reducible refine Kd.C_drew ?_) | exact HR556_0.out)⟩, ⟨bB⟩⟩
                  ·rw [if_neg c36] at H
                   have c36b0 : decide ((wrap64 (((rd_L3 t545 x13_3).length : Int) - 1)) < 0) = false := decide_eq_false c36
                   clear c36
                   (first | rw [c36b0] | (simp only [i64_w, i32_w]; rw [c36b0]) | skip)
                   have H' := Aside0.mk H
                   clear H
                   go_wp2
                   repeat (go_quiet (fail); try go_wp2)
                   go_meet
                   case rel => exact ⟨_, (decide ((wrap64 (((rd_L3 t549 x14_4).length : Int) - 1)) < 0)), sK, H', ⟨by have := HJ6.out; have := HJ20.out; have := HK3.out; have := HK4.out; first | omega | exact Nat.le_refl _⟩, ⟨by (with_reducible repeat (first | apply Kd.N_alloc | apply Kd.N_drewN | apply Kd.N_drew)); exact HO_9.out⟩, ⟨by (with_reducible repeat (first | apply Kd.N_alloc | apply Kd.N_drewN | apply Kd.N_drew)); exact HO_11.out⟩, ⟨by repeat (first | (with_reducible exact HR555_0.out) | (with_reducible refine Kd.C_alloc ?_ _) | (with_reducible refine Kd.C_drewN ?_ _) | (with_reducible refine Kd.C_drew ?_) | exact HR555_0.out)⟩, ⟨by repeat (first | (with_reducible exact HR556_0.out) | (with_reducible refine Kd.C_alloc ?_ _) | (with_reducible refine Kd.C_drewN ?_ _) | (with_reducible refine Kd.C_drew ?_) | exact HR556_0.out)⟩, ⟨bB⟩⟩
                 case rest =>
                  clear HC34
                  try clear c1
                  try clear c2
                  try clear p2
                  try clear c3
                  try clear c5
                  try clear p5
                  try clear q5
                  try clear hx5
                  try clear p6
                  try clear c7
                  try clear c14
                  try clear c14b0
                  try clear c14b1
                  try clear c15
                  try clear c15b0
                  try clear c15b1
                  try clear c15b2
                  try clear c17
                  try clear c25
                  try clear c25b0
                  try clear c25b1
                  try clear c27
                  try clear c28
                  try clear c28b0
                  try clear c30
                  try clear c30b0
                  try clear c31
                  try clear c31b0
                  try clear c32
                  try clear c32b0
                  try clear c33
                  try clear c33b0
                  try clear c36
                  try clear c36b0
                  try clear hx555_0
                  try clear hx556_0
                  try clear p2
                  try clear p555
                  try clear p556
                  try clear q555
                  try clear q556
                  obtain ⟨kq, x92_33, rfl, HA, HJ33, HO_9, HO_11, HR555_0, HR556_0, HB⟩ := hcut
                  cases kq with
                  | zero => exact absurd HA.out (by simp [quaerelaw12_PathApart.j4])
                  | succ kj33 =>
                   have H := HA.out
                   clear HA
                   simp only [quaerelaw12_PathApart.j4] at H
                   by_cases c37 : x92_33 = true
                   ·subst c37
                    have H1 : (some false) = some r := by rw [if_pos rfl] at H; exact H
                    clear H
                    have H := H1
                    clear H1
                    obtain rfl := Option.some.inj H
                    go_wp2
                    repeat (go_quiet (fail); try go_wp2)
                    go_ret
                    exact ⟨eK, bB⟩
                   ·replace c37 := Bool.eq_false_iff.mpr c37
                    subst c37
                    have H1 : (if 0 ≤ x13_3 then (if x13_3 < (t545.length : Int) then (if 0 ≤ (wrap64 (((rd_L3 t545 x13_3).length : Int) - 1)) then (if (wrap64 (((rd_L3 t545 x13_3).length : Int) - 1)) ≤ ((rd_L3 t545 x13_3).length : Int) then (if 0 ≤ x14_4 then (if x14_4 < (t549.length : Int) then (if 0 ≤ (wrap64 (((rd_L3 t549 x14_4).length : Int) - 1)) then (if (wrap64 (((rd_L3 t549 x14_4).length : Int) - 1)) ≤ ((rd_L3 t549 x14_4).length : Int) then ((quaerelaw0_SameInts.f kj33 ((rd_L3 t545 x13_3).take ((wrap64 (((rd_L3 t545 x13_3).length : Int) - 1)) : Int).toNat) ((rd_L3 t549 x14_4).take ((wrap64 (((rd_L3 t549 x14_4).length : Int) - 1)) : Int).toNat)).bind fun t569 => (if t569 = true then (if (wrap64 (((rd_L3 t545 x13_3).length : Int) - 1)) < ((rd_L3 t545 x13_3).length : Int) then (if (wrap64 (((rd_L3 t549 x14_4).length : Int) - 1)) < ((rd_L3 t549 x14_4).length : Int) then (if (rd (rd_L3 t545 x13_3) (wrap64 (((rd_L3 t545 x13_3).length : Int) - 1))) = (rd (rd_L3 t549 x14_4) (wrap64 (((rd_L3 t549 x14_4).length : Int) - 1))) then (quaerelaw12_PathApart.l1 kj33 t545 t549 x13_3 (wrap64 (x14_4 + 1))) else (if (rd (rd_L3 t545 x13_3) (wrap64 (((rd_L3 t545 x13_3).length : Int) - 1))) ≥ 0 then (if (rd (rd_L3 t549 x14_4) (wrap64 (((rd_L3 t549 x14_4).length : Int) - 1))) ≥ 0 then (some false) else (quaerelaw12_PathApart.l1 kj33 t545 t549 x13_3 (wrap64 (x14_4 + 1)))) else (quaerelaw12_PathApart.l1 kj33 t545 t549 x13_3 (wrap64 (x14_4 + 1))))) else (none)) else (none)) else (quaerelaw12_PathApart.l1 kj33 t545 t549 x13_3 (wrap64 (x14_4 + 1))))) else (none)) else (none)) else (none)) else (none)) else (none)) else (none)) else (none)) else (none)) = some r := by rw [if_neg (show ¬ (false = true) by decide)] at H; exact H
                    clear H
                    have H := H1
                    clear H1
                    by_cases c38 : 0 ≤ x13_3
                    ·rw [if_pos c38] at H
                     have c38b0 : decide (0 ≤ x13_3) = true := decide_eq_true c38
                     clear c38
                     by_cases c39 : x13_3 < (t545.length : Int)
                     ·rw [if_pos c39] at H
                      have c39b0 : decide (x13_3 < (t545.length : Int)) = true := decide_eq_true c39
                      clear c39
                      obtain ⟨ji40, hji40⟩ : ∃ j_ : Int, (wrap64 (((rd_L3 t545 x13_3).length : Int) - 1)) = j_ := ⟨_, rfl⟩
                      replace H : (if 0 ≤ (ji40) then (if (ji40) ≤ ((rd_L3 t545 x13_3).length : Int) then (if 0 ≤ x14_4 then (if x14_4 < (t549.length : Int) then (if 0 ≤ (wrap64 (((rd_L3 t549 x14_4).length : Int) - 1)) then (if (wrap64 (((rd_L3 t549 x14_4).length : Int) - 1)) ≤ ((rd_L3 t549 x14_4).length : Int) then ((quaerelaw0_SameInts.f kj33 ((rd_L3 t545 x13_3).take ((ji40) : Int).toNat) ((rd_L3 t549 x14_4).take ((wrap64 (((rd_L3 t549 x14_4).length : Int) - 1)) : Int).toNat)).bind fun t569 => (if t569 = true then (if (ji40) < ((rd_L3 t545 x13_3).length : Int) then (if (wrap64 (((rd_L3 t549 x14_4).length : Int) - 1)) < ((rd_L3 t549 x14_4).length : Int) then (if (rd (rd_L3 t545 x13_3) (ji40)) = (rd (rd_L3 t549 x14_4) (wrap64 (((rd_L3 t549 x14_4).length : Int) - 1))) then (quaerelaw12_PathApart.l1 kj33 t545 t549 x13_3 (wrap64 (x14_4 + 1))) else (if (rd (rd_L3 t545 x13_3) (ji40)) ≥ 0 then (if (rd (rd_L3 t549 x14_4) (wrap64 (((rd_L3 t549 x14_4).length : Int) - 1))) ≥ 0 then (some false) else (quaerelaw12_PathApart.l1 kj33 t545 t549 x13_3 (wrap64 (x14_4 + 1)))) else (quaerelaw12_PathApart.l1 kj33 t545 t549 x13_3 (wrap64 (x14_4 + 1))))) else (none)) else (none)) else (quaerelaw12_PathApart.l1 kj33 t545 t549 x13_3 (wrap64 (x14_4 + 1))))) else (none)) else (none)) else (none)) else (none)) else (none)) else (none)) = some r := by first | (rw [hji40] at H; exact H) | (simp only [hji40] at H ⊢; exact H)
                      have hji40w : (IntKind.i64.wrap (((rd_L3 t545 x13_3).length : Int) - 1)) = ji40 := (i64_w _).trans hji40
                      by_cases c41 : 0 ≤ (ji40)
                      ·rw [if_pos c41] at H
                       have c41b0 := eq_true c41
                       have c41b1 : decide (0 ≤ (ji40)) = true := decide_eq_true c41
                       clear c41
                       by_cases c42 : (ji40) ≤ ((rd_L3 t545 x13_3).length : Int)
                       ·rw [if_pos c42] at H
                        have c42b0 := eq_true c42
                        have c42b1 : decide ((ji40) ≤ ((rd_L3 t545 x13_3).length : Int)) = true := decide_eq_true c42
                        clear c42
                        obtain ⟨y558, hy558⟩ : ∃ y_ : List Int, y_ = ((rd_L3 t545 x13_3).take ((ji40) : Int).toNat) := ⟨_, rfl⟩
                        replace H : (if 0 ≤ x14_4 then (if x14_4 < (t549.length : Int) then (if 0 ≤ (wrap64 (((rd_L3 t549 x14_4).length : Int) - 1)) then (if (wrap64 (((rd_L3 t549 x14_4).length : Int) - 1)) ≤ ((rd_L3 t549 x14_4).length : Int) then ((quaerelaw0_SameInts.f kj33 y558 ((rd_L3 t549 x14_4).take ((wrap64 (((rd_L3 t549 x14_4).length : Int) - 1)) : Int).toNat)).bind fun t569 => (if t569 = true then (if (ji40) < ((rd_L3 t545 x13_3).length : Int) then (if (wrap64 (((rd_L3 t549 x14_4).length : Int) - 1)) < ((rd_L3 t549 x14_4).length : Int) then (if (rd (rd_L3 t545 x13_3) (ji40)) = (rd (rd_L3 t549 x14_4) (wrap64 (((rd_L3 t549 x14_4).length : Int) - 1))) then (quaerelaw12_PathApart.l1 kj33 t545 t549 x13_3 (wrap64 (x14_4 + 1))) else (if (rd (rd_L3 t545 x13_3) (ji40)) ≥ 0 then (if (rd (rd_L3 t549 x14_4) (wrap64 (((rd_L3 t549 x14_4).length : Int) - 1))) ≥ 0 then (some false) else (quaerelaw12_PathApart.l1 kj33 t545 t549 x13_3 (wrap64 (x14_4 + 1)))) else (quaerelaw12_PathApart.l1 kj33 t545 t549 x13_3 (wrap64 (x14_4 + 1))))) else (none)) else (none)) else (quaerelaw12_PathApart.l1 kj33 t545 t549 x13_3 (wrap64 (x14_4 + 1))))) else (none)) else (none)) else (none)) else (none)) = some r := by first | (rw [hy558]; with_reducible exact H) | (have H2_ := (Option.bind_some _ _).symm.trans H; rw [hy558]; with_reducible exact H2_) | (have H2_ := (Option.bind_some _ _).symm.trans H; with_reducible exact H2_) | with_reducible exact H | (rw [hy558]; exact H) | exact H
                        have Ny558 := Aside0.mk hy558
                        clear hy558
                        by_cases c43 : 0 ≤ x14_4
                        ·rw [if_pos c43] at H
                         have c43b0 : decide (0 ≤ x14_4) = true := decide_eq_true c43
                         clear c43
                         by_cases c44 : x14_4 < (t549.length : Int)
                         ·rw [if_pos c44] at H
                          have c44b0 : decide (x14_4 < (t549.length : Int)) = true := decide_eq_true c44
                          clear c44
                          obtain ⟨ji45, hji45⟩ : ∃ j_ : Int, (wrap64 (((rd_L3 t549 x14_4).length : Int) - 1)) = j_ := ⟨_, rfl⟩
                          replace H : (if 0 ≤ (ji45) then (if (ji45) ≤ ((rd_L3 t549 x14_4).length : Int) then ((quaerelaw0_SameInts.f kj33 y558 ((rd_L3 t549 x14_4).take ((ji45) : Int).toNat)).bind fun t569 => (if t569 = true then (if (ji40) < ((rd_L3 t545 x13_3).length : Int) then (if (ji45) < ((rd_L3 t549 x14_4).length : Int) then (if (rd (rd_L3 t545 x13_3) (ji40)) = (rd (rd_L3 t549 x14_4) (ji45)) then (quaerelaw12_PathApart.l1 kj33 t545 t549 x13_3 (wrap64 (x14_4 + 1))) else (if (rd (rd_L3 t545 x13_3) (ji40)) ≥ 0 then (if (rd (rd_L3 t549 x14_4) (ji45)) ≥ 0 then (some false) else (quaerelaw12_PathApart.l1 kj33 t545 t549 x13_3 (wrap64 (x14_4 + 1)))) else (quaerelaw12_PathApart.l1 kj33 t545 t549 x13_3 (wrap64 (x14_4 + 1))))) else (none)) else (none)) else (quaerelaw12_PathApart.l1 kj33 t545 t549 x13_3 (wrap64 (x14_4 + 1))))) else (none)) else (none)) = some r := by first | (rw [hji45] at H; exact H) | (simp only [hji45] at H ⊢; exact H)
                          have hji45w : (IntKind.i64.wrap (((rd_L3 t549 x14_4).length : Int) - 1)) = ji45 := (i64_w _).trans hji45
                          by_cases c46 : 0 ≤ (ji45)
                          ·rw [if_pos c46] at H
                           have c46b0 := eq_true c46
                           have c46b1 : decide (0 ≤ (ji45)) = true := decide_eq_true c46
                           clear c46
                           by_cases c47 : (ji45) ≤ ((rd_L3 t549 x14_4).length : Int)
                           ·rw [if_pos c47] at H
                            have c47b0 := eq_true c47
                            have c47b1 : decide ((ji45) ≤ ((rd_L3 t549 x14_4).length : Int)) = true := decide_eq_true c47
                            clear c47
                            obtain ⟨y564, hy564⟩ : ∃ y_ : List Int, y_ = ((rd_L3 t549 x14_4).take ((ji45) : Int).toNat) := ⟨_, rfl⟩
                            replace H : ((quaerelaw0_SameInts.f kj33 y558 y564).bind fun t569 => (if t569 = true then (if (ji40) < ((rd_L3 t545 x13_3).length : Int) then (if (ji45) < ((rd_L3 t549 x14_4).length : Int) then (if (rd (rd_L3 t545 x13_3) (ji40)) = (rd (rd_L3 t549 x14_4) (ji45)) then (quaerelaw12_PathApart.l1 kj33 t545 t549 x13_3 (wrap64 (x14_4 + 1))) else (if (rd (rd_L3 t545 x13_3) (ji40)) ≥ 0 then (if (rd (rd_L3 t549 x14_4) (ji45)) ≥ 0 then (some false) else (quaerelaw12_PathApart.l1 kj33 t545 t549 x13_3 (wrap64 (x14_4 + 1)))) else (quaerelaw12_PathApart.l1 kj33 t545 t549 x13_3 (wrap64 (x14_4 + 1))))) else (none)) else (none)) else (quaerelaw12_PathApart.l1 kj33 t545 t549 x13_3 (wrap64 (x14_4 + 1))))) = some r := by first | (rw [hy564]; with_reducible exact H) | (have H2_ := (Option.bind_some _ _).symm.trans H; rw [hy564]; with_reducible exact H2_) | (have H2_ := (Option.bind_some _ _).symm.trans H; with_reducible exact H2_) | with_reducible exact H | (rw [hy564]; exact H) | exact H
                            have Ny564 := Aside0.mk hy564
                            clear hy564
                            replace H := Option.bind_eq_some_iff.mp H
                            obtain ⟨t569, A480, H⟩ := H
                            replace H : (if t569 = true then (if (ji40) < ((rd_L3 t545 x13_3).length : Int) then (if (ji45) < ((rd_L3 t549 x14_4).length : Int) then (if (rd (rd_L3 t545 x13_3) (ji40)) = (rd (rd_L3 t549 x14_4) (ji45)) then (quaerelaw12_PathApart.l1 kj33 t545 t549 x13_3 (wrap64 (x14_4 + 1))) else (if (rd (rd_L3 t545 x13_3) (ji40)) ≥ 0 then (if (rd (rd_L3 t549 x14_4) (ji45)) ≥ 0 then (some false) else (quaerelaw12_PathApart.l1 kj33 t545 t549 x13_3 (wrap64 (x14_4 + 1)))) else (quaerelaw12_PathApart.l1 kj33 t545 t549 x13_3 (wrap64 (x14_4 + 1))))) else (none)) else (none)) else (quaerelaw12_PathApart.l1 kj33 t545 t549 x13_3 (wrap64 (x14_4 + 1)))) = some r := H
                            have A48 := Aside0.mk A480
                            clear A480
                            by_cases c49 : t569 = true
                            ·subst c49
                             have H1 : (if (ji40) < ((rd_L3 t545 x13_3).length : Int) then (if (ji45) < ((rd_L3 t549 x14_4).length : Int) then (if (rd (rd_L3 t545 x13_3) (ji40)) = (rd (rd_L3 t549 x14_4) (ji45)) then (quaerelaw12_PathApart.l1 kj33 t545 t549 x13_3 (wrap64 (x14_4 + 1))) else (if (rd (rd_L3 t545 x13_3) (ji40)) ≥ 0 then (if (rd (rd_L3 t549 x14_4) (ji45)) ≥ 0 then (some false) else (quaerelaw12_PathApart.l1 kj33 t545 t549 x13_3 (wrap64 (x14_4 + 1)))) else (quaerelaw12_PathApart.l1 kj33 t545 t549 x13_3 (wrap64 (x14_4 + 1))))) else (none)) else (none)) = some r := by rw [if_pos rfl] at H; exact H
                             clear H
                             have H := H1
                             clear H1
                             by_cases c50 : (ji40) < ((rd_L3 t545 x13_3).length : Int)
                             ·rw [if_pos c50] at H
                              have c50b0 : decide ((ji40) < ((rd_L3 t545 x13_3).length : Int)) = true := decide_eq_true c50
                              clear c50
                              by_cases c51 : (ji45) < ((rd_L3 t549 x14_4).length : Int)
                              ·rw [if_pos c51] at H
                               have c51b0 : decide ((ji45) < ((rd_L3 t549 x14_4).length : Int)) = true := decide_eq_true c51
                               clear c51
                               by_cases c52 : (rd (rd_L3 t545 x13_3) (ji40)) = (rd (rd_L3 t549 x14_4) (ji45))
                               ·rw [if_pos c52] at H
                                have c52b0 : ((rd (rd_L3 t545 x13_3) (ji40)) == (rd (rd_L3 t549 x14_4) (ji45))) = true := beq_iff_eq.mpr c52
                                have c52b1 : ((rd (rd_L3 t545 x13_3) (ji40)) != (rd (rd_L3 t549 x14_4) (ji45))) = false := bne_eq_false_iff_eq.mpr c52
                                clear c52
                                have H' := Aside0.mk H
                                clear H
                                have p557 : 0 ≤ (x13_3 : Int) := of_decide_eq_true aK
                                have q557 : x13_3 < (t545.length : Int) := of_decide_eq_true aK
                                obtain ⟨ad557, A557_0, c557_0, e557, hx557_0, hl557_0, hi557_0⟩ := at_L3 (Kd.N_reads' HO_9.out).2.2 x13_3 p557 q557
                                obtain rfl : ad555 = ad557 := (by injection e557)
                                obtain ⟨ce557, hce557, hMe557, hcc557⟩ := Kd.N_get HO_9.out [] x13_3 p557 (by first | exact q557 | exact of_decide_eq_true aK | (have e_ := (Kd.N_reads' HO_9.out).1; omega))
                                obtain ⟨ua557_0, uc557_0, rfl, ul557_0, ge557_0⟩ := Kd.FK_slice_open hMe557
                                have hv557_0 := hcc557 0 _ rfl
                                rw [Nat.add_zero, show ((Kd.slice 3 (Kd.int .i64))).sz = 1 from rfl, Nat.mul_one] at hv557_0
                                replace hv557_0 := Option.some.inj (hv557_0.symm.trans hx557_0)
                                injection hv557_0 with hva_ hvn_ hvc_
                                rw [hva_] at ge557_0
                                rw [hvc_] at ul557_0
                                have HL557_0 := Aside0.mk (show Kd.V (Kd.int .i64) 3 _ w.heap.size _ _ (rd_L3 t545 x13_3) from Kd.V_mk ul557_0 ge557_0)
                                clear hva_ hvn_ hvc_ ge557_0 ul557_0 hcc557 hce557
                                have HR557_0 := Aside0.mk hi557_0
                                have HC557_0 := Aside0.mk hl557_0
                                clear hi557_0 hl557_0
                                replace p557 := eq_true p557
                                replace q557 := eq_true q557
                                have q53 : ((ji40) : Int) ≤ (((rd_L3 t545 x13_3).length : Int) : Int) := of_decide_eq_true aK
                                obtain ⟨i053, hi053, _, hsz53, _⟩ := info_parts info3
                                have hroom53 : (rd_L3 t545 x13_3).length ≤ c557_0 := HC557_0.out
                                have hC53 : Kd.F (Kd.int .i64) _ _ A557_0 (rd_L3 t545 x13_3).length (rd_L3 t545 x13_3) := (Kd.V_at (base := w.heap.size) HL557_0.out).2.2
                                have hcut53 := cut_to (P := Tryd.prog) 23 3 .i64 Tryd.underlying23 hi053 A557_0 (rd_L3 t545 x13_3).length c557_0 (ji40) (of_decide_eq_true aK) q53 hroom53
                                have hr53 := Kd.F_take (m := ((ji40) : Int).toNat) hC53 (by omega)
                                have hy53 : y558.length = ((ji40) : Int).toNat := (by rw [Ny558.out, List.length_take]; omega)
                                rw [← Ny558.out] at hr53
                                rw [← hy53] at hcut53
                                have HO562 := Aside0.mk (show Kd.V (Kd.int .i64) 3 _ w.heap.size _ (.slice A557_0 y558.length c557_0) y558 from Kd.V_mk (by omega) hr53)
                                have HC562 := Aside0.mk (show y558.length ≤ c557_0 from by omega)
                                clear hr53 hC53 hroom53 hi053 hsz53
                                have KY53 := Aside0.mk hy53
                                clear hy53
                                replace q53 := eq_true q53
                                have p563 : 0 ≤ (x14_4 : Int) := of_decide_eq_true aK
                                have q563 : x14_4 < (t549.length : Int) := of_decide_eq_true aK
                                obtain ⟨ad563, A563_0, c563_0, e563, hx563_0, hl563_0, hi563_0⟩ := at_L3 (Kd.N_reads' HO_11.out).2.2 x14_4 p563 q563
                                obtain rfl : ad556 = ad563 := (by injection e563)
                                obtain ⟨ce563, hce563, hMe563, hcc563⟩ := Kd.N_get HO_11.out [] x14_4 p563 (by first | exact q563 | exact of_decide_eq_true aK | (have e_ := (Kd.N_reads' HO_11.out).1; omega))
                                obtain ⟨ua563_0, uc563_0, rfl, ul563_0, ge563_0⟩ := Kd.FK_slice_open hMe563
                                have hv563_0 := hcc563 0 _ rfl
                                rw [Nat.add_zero, show ((Kd.slice 3 (Kd.int .i64))).sz = 1 from rfl, Nat.mul_one] at hv563_0
                                replace hv563_0 := Option.some.inj (hv563_0.symm.trans hx563_0)
                                injection hv563_0 with hva_ hvn_ hvc_
                                rw [hva_] at ge563_0
                                rw [hvc_] at ul563_0
                                have HL563_0 := Aside0.mk (show Kd.V (Kd.int .i64) 3 _ w.heap.size _ _ (rd_L3 t549 x14_4) from Kd.V_mk ul563_0 ge563_0)
                                clear hva_ hvn_ hvc_ ge563_0 ul563_0 hcc563 hce563
                                have HR563_0 := Aside0.mk hi563_0
                                have HC563_0 := Aside0.mk hl563_0
                                clear hi563_0 hl563_0
                                replace p563 := eq_true p563
                                replace q563 := eq_true q563
                                have q54 : ((ji45) : Int) ≤ (((rd_L3 t549 x14_4).length : Int) : Int) := of_decide_eq_true aK
                                obtain ⟨i054, hi054, _, hsz54, _⟩ := info_parts info3
                                have hroom54 : (rd_L3 t549 x14_4).length ≤ c563_0 := HC563_0.out
                                have hC54 : Kd.F (Kd.int .i64) _ _ A563_0 (rd_L3 t549 x14_4).length (rd_L3 t549 x14_4) := (Kd.V_at (base := w.heap.size) HL563_0.out).2.2
                                have hcut54 := cut_to (P := Tryd.prog) 23 3 .i64 Tryd.underlying23 hi054 A563_0 (rd_L3 t549 x14_4).length c563_0 (ji45) (of_decide_eq_true aK) q54 hroom54
                                have hr54 := Kd.F_take (m := ((ji45) : Int).toNat) hC54 (by omega)
                                have hy54 : y564.length = ((ji45) : Int).toNat := (by rw [Ny564.out, List.length_take]; omega)
                                rw [← Ny564.out] at hr54
                                rw [← hy54] at hcut54
                                have HO568 := Aside0.mk (show Kd.V (Kd.int .i64) 3 _ w.heap.size _ (.slice A563_0 y564.length c563_0) y564 from Kd.V_mk (by omega) hr54)
                                have HC568 := Aside0.mk (show y564.length ≤ c563_0 from by omega)
                                clear hr54 hC54 hroom54 hi054 hsz54
                                have KY54 := Aside0.mk hy54
                                clear hy54
                                replace q54 := eq_true q54
                                have p570 : 0 ≤ (x13_3 : Int) := of_decide_eq_true aK
                                have q570 : x13_3 < (t545.length : Int) := of_decide_eq_true aK
                                obtain ⟨ad570, A570_0, c570_0, e570, hx570_0, hl570_0, hi570_0⟩ := at_L3 (Kd.N_reads' HO_9.out).2.2 x13_3 p570 q570
                                obtain rfl : ad555 = ad570 := (by injection e570)
                                obtain ⟨ce570, hce570, hMe570, hcc570⟩ := Kd.N_get HO_9.out [] x13_3 p570 (by first | exact q570 | exact of_decide_eq_true aK | (have e_ := (Kd.N_reads' HO_9.out).1; omega))
                                obtain ⟨ua570_0, uc570_0, rfl, ul570_0, ge570_0⟩ := Kd.FK_slice_open hMe570
                                have hv570_0 := hcc570 0 _ rfl
                                rw [Nat.add_zero, show ((Kd.slice 3 (Kd.int .i64))).sz = 1 from rfl, Nat.mul_one] at hv570_0
                                replace hv570_0 := Option.some.inj (hv570_0.symm.trans hx570_0)
                                injection hv570_0 with hva_ hvn_ hvc_
                                rw [hva_] at ge570_0
                                rw [hvc_] at ul570_0
                                have HL570_0 := Aside0.mk (show Kd.V (Kd.int .i64) 3 _ w.heap.size _ _ (rd_L3 t545 x13_3) from Kd.V_mk ul570_0 ge570_0)
                                clear hva_ hvn_ hvc_ ge570_0 ul570_0
                                clear hcc570 hce570
                                have HR570_0 := Aside0.mk hi570_0
                                have HC570_0 := Aside0.mk hl570_0
                                clear hi570_0 hl570_0
                                replace p570 := eq_true p570
                                replace q570 := eq_true q570
                                have ea_ := Option.some.inj (hx557_0.symm.trans hx570_0)
                                injection ea_ with ea_ en_ ec_
                                subst ea_
                                subst ec_
                                clear en_
                                have p571 : 0 ≤ ((ji40) : Int) := of_decide_eq_true aK
                                have q571 : (ji40) < ((rd_L3 t545 x13_3).length : Int) := of_decide_eq_true aK
                                obtain ⟨ad571, e571, hx571_0⟩ := Kd.at_int (by repeat (first | (with_reducible exact HR570_0.out) | (with_reducible refine Kd.C_alloc ?_ _) | (with_reducible refine Kd.C_drewN ?_ _) | (with_reducible refine Kd.C_drew ?_) | exact HR570_0.out)) (ji40) p571 q571
                                cases e571
                                replace p571 := eq_true p571
                                replace q571 := eq_true q571
                                have p572 : 0 ≤ (x14_4 : Int) := of_decide_eq_true aK
                                have q572 : x14_4 < (t549.length : Int) := of_decide_eq_true aK
                                obtain ⟨ad572, A572_0, c572_0, e572, hx572_0, hl572_0, hi572_0⟩ := at_L3 (Kd.N_reads' HO_11.out).2.2 x14_4 p572 q572
                                obtain rfl : ad556 = ad572 := (by injection e572)
                                obtain ⟨ce572, hce572, hMe572, hcc572⟩ := Kd.N_get HO_11.out [] x14_4 p572 (by first | exact q572 | exact of_decide_eq_true aK | (have e_ := (Kd.N_reads' HO_11.out).1; omega))
                                obtain ⟨ua572_0, uc572_0, rfl, ul572_0, ge572_0⟩ := Kd.FK_slice_open hMe572
                                have hv572_0 := hcc572 0 _ rfl
                                rw [Nat.add_zero, show ((Kd.slice 3 (Kd.int .i64))).sz = 1 from rfl, Nat.mul_one] at hv572_0
                                replace hv572_0 := Option.some.inj (hv572_0.symm.trans hx572_0)
                                injection hv572_0 with hva_ hvn_ hvc_
                                rw [hva_] at ge572_0
                                rw [hvc_] at ul572_0
                                have HL572_0 := Aside0.mk (show Kd.V (Kd.int .i64) 3 _ w.heap.size _ _ (rd_L3 t549 x14_4) from Kd.V_mk ul572_0 ge572_0)
                                clear hva_ hvn_ hvc_ ge572_0 ul572_0
                                clear hcc572 hce572
                                have HR572_0 := Aside0.mk hi572_0
                                have HC572_0 := Aside0.mk hl572_0
                                clear hi572_0 hl572_0
                                replace p572 := eq_true p572
                                replace q572 := eq_true q572
                                have ea_ := Option.some.inj (hx563_0.symm.trans hx572_0)
                                injection ea_ with ea_ en_ ec_
                                subst ea_
                                subst ec_
                                clear en_
                                have p573 : 0 ≤ ((ji45) : Int) := of_decide_eq_true aK
                                have q573 : (ji45) < ((rd_L3 t549 x14_4).length : Int) := of_decide_eq_true aK
                                obtain ⟨ad573, e573, hx573_0⟩ := Kd.at_int (by repeat (first | (with_reducible exact HR572_0.out) | (with_reducible refine Kd.C_alloc ?_ _) | (with_reducible refine Kd.C_drewN ?_ _) | (with_reducible refine Kd.C_drew ?_) | exact HR572_0.out)) (ji45) p573 q573
                                cases e573
                                replace p573 := eq_true p573
                                replace q573 := eq_true q573
                                go_wp2
                                go_big_quiet ((go_at_call 20; (with_reducible refine (quaerelaw0_SameInts.calls kj33 _ _ y558 _ _ y564 true _ ?side1 ?side2 ?side3 ?side4 A48.out).mono ?_); (case side1 => exact cK ((Kd.V_reads' HO562.out).2.2)); (case side2 => exact (Kd.V_reads' HO562.out).2.1); (case side3 => exact cK ((Kd.V_reads' HO568.out).2.2)); (case side4 => exact (Kd.V_reads' HO568.out).2.1); rintro e w' ⟨rfl, ⟨nd, rfl⟩⟩; (first | exact ⟨rfl, _, World.drewN_drewN _ _ _⟩ | exact ⟨rfl, _, Eq.trans (World.drewN_drewN _ _ _) (congrArg (World.drewN _) (Nat.add_assoc _ _ _))⟩)))
                                go_wp2
                                go_roundg kj33
                                case measure => have := HJ6.out; have := HJ20.out; have := HK3.out; have := HK4.out; have := HJ33.out; omega
                                case rel => exact ⟨(wrap64 (x14_4 + 1)), sK, H', ⟨by have := HJ6.out; have := HJ20.out; have := HK3.out; have := HK4.out; have := HJ33.out; omega⟩, ⟨by (with_reducible repeat (first | apply Kd.N_alloc | apply Kd.N_drewN | apply Kd.N_drew)); exact HO_9.out⟩, ⟨by (with_reducible repeat (first | apply Kd.N_alloc | apply Kd.N_drewN | apply Kd.N_drew)); exact HO_11.out⟩, ⟨bB⟩⟩
                               ·rw [if_neg c52] at H
                                have c52b0 : ((rd (rd_L3 t545 x13_3) (ji40)) == (rd (rd_L3 t549 x14_4) (ji45))) = false := beq_eq_false_iff_ne.mpr c52
                                have c52b1 : ((rd (rd_L3 t545 x13_3) (ji40)) != (rd (rd_L3 t549 x14_4) (ji45))) = true := bne_iff_ne.mpr c52
                                by_cases c55 : (rd (rd_L3 t545 x13_3) (ji40)) ≥ 0
                                ·rw [if_pos c55] at H
                                 have c55b0 : decide (0 ≤ (rd (rd_L3 t545 x13_3) (ji40))) = true := decide_eq_true c55
                                 clear c55
                                 by_cases c56 : (rd (rd_L3 t549 x14_4) (ji45)) ≥ 0
                                 ·rw [if_pos c56] at H
                                  have c56b0 : decide (0 ≤ (rd (rd_L3 t549 x14_4) (ji45))) = true := decide_eq_true c56
                                  clear c56
                                  obtain rfl := Option.some.inj H
                                  have p557 : 0 ≤ (x13_3 : Int) := of_decide_eq_true aK
                                  have q557 : x13_3 < (t545.length : Int) := of_decide_eq_true aK
                                  obtain ⟨ad557, A557_0, c557_0, e557, hx557_0, hl557_0, hi557_0⟩ := at_L3 (Kd.N_reads' HO_9.out).2.2 x13_3 p557 q557
                                  obtain rfl : ad555 = ad557 := (by injection e557)
                                  obtain ⟨ce557, hce557, hMe557, hcc557⟩ := Kd.N_get HO_9.out [] x13_3 p557 (by first | exact q557 | exact of_decide_eq_true aK | (have e_ := (Kd.N_reads' HO_9.out).1; omega))
                                  obtain ⟨ua557_0, uc557_0, rfl, ul557_0, ge557_0⟩ := Kd.FK_slice_open hMe557
                                  have hv557_0 := hcc557 0 _ rfl
                                  rw [Nat.add_zero, show ((Kd.slice 3 (Kd.int .i64))).sz = 1 from rfl, Nat.mul_one] at hv557_0
                                  replace hv557_0 := Option.some.inj (hv557_0.symm.trans hx557_0)
                                  injection hv557_0 with hva_ hvn_ hvc_
                                  rw [hva_] at ge557_0
                                  rw [hvc_] at ul557_0
                                  have HL557_0 := Aside0.mk (show Kd.V (Kd.int .i64) 3 _ w.heap.size _ _ (rd_L3 t545 x13_3) from Kd.V_mk ul557_0 ge557_0)
                                  clear hva_ hvn_ hvc_ ge557_0 ul557_0 hcc557 hce557
                                  have HR557_0 := Aside0.mk hi557_0
                                  have HC557_0 := Aside0.mk hl557_0
                                  clear hi557_0 hl557_0
                                  replace p557 := eq_true p557
                                  replace q557 := eq_true q557
                                  have q57 : ((ji40) : Int) ≤ (((rd_L3 t545 x13_3).length : Int) : Int) := of_decide_eq_true aK
                                  obtain ⟨i057, hi057, _, hsz57, _⟩ := info_parts info3
                                  have hroom57 : (rd_L3 t545 x13_3).length ≤ c557_0 := HC557_0.out
                                  have hC57 : Kd.F (Kd.int .i64) _ _ A557_0 (rd_L3 t545 x13_3).length (rd_L3 t545 x13_3) := (Kd.V_at (base := w.heap.size) HL557_0.out).2.2
                                  have hcut57 := cut_to (P := Tryd.prog) 23 3 .i64 Tryd.underlying23 hi057 A557_0 (rd_L3 t545 x13_3).length c557_0 (ji40) (of_decide_eq_true aK) q57 hroom57
                                  have hr57 := Kd.F_take (m := ((ji40) : Int).toNat) hC57 (by omega)
                                  have hy57 : y558.length = ((ji40) : Int).toNat := (by rw [Ny558.out, List.length_take]; omega)
                                  rw [← Ny558.out] at hr57
                                  rw [← hy57] at hcut57
                                  have HO562 := Aside0.mk (show Kd.V (Kd.int .i64) 3 _ w.heap.size _ (.slice A557_0 y558.length c557_0) y558 from Kd.V_mk (by omega) hr57)
                                  have HC562 := Aside0.mk (show y558.length ≤ c557_0 from by omega)
                                  clear hr57 hC57 hroom57 hi057 hsz57
                                  have KY57 := Aside0.mk hy57
                                  clear hy57
                                  replace q57 := eq_true q57
                                  have p563 : 0 ≤ (x14_4 : Int) := of_decide_eq_true aK
                                  have q563 : x14_4 < (t549.length : Int) := of_decide_eq_true aK
                                  obtain ⟨ad563, A563_0, c563_0, e563, hx563_0, hl563_0, hi563_0⟩ := at_L3 (Kd.N_reads' HO_11.out).2.2 x14_4 p563 q563
                                  obtain rfl : ad556 = ad563 := (by injection e563)
                                  obtain ⟨ce563, hce563, hMe563, hcc563⟩ := Kd.N_get HO_11.out [] x14_4 p563 (by first | exact q563 | exact of_decide_eq_true aK | (have e_ := (Kd.N_reads' HO_11.out).1; omega))
                                  obtain ⟨ua563_0, uc563_0, rfl, ul563_0, ge563_0⟩ := Kd.FK_slice_open hMe563
                                  have hv563_0 := hcc563 0 _ rfl
                                  rw [Nat.add_zero, show ((Kd.slice 3 (Kd.int .i64))).sz = 1 from rfl, Nat.mul_one] at hv563_0
                                  replace hv563_0 := Option.some.inj (hv563_0.symm.trans hx563_0)
                                  injection hv563_0 with hva_ hvn_ hvc_
                                  rw [hva_] at ge563_0
                                  rw [hvc_] at ul563_0
                                  have HL563_0 := Aside0.mk (show Kd.V (Kd.int .i64) 3 _ w.heap.size _ _ (rd_L3 t549 x14_4) from Kd.V_mk ul563_0 ge563_0)
                                  clear hva_ hvn_ hvc_ ge563_0 ul563_0 hcc563 hce563
                                  have HR563_0 := Aside0.mk hi563_0
                                  have HC563_0 := Aside0.mk hl563_0
                                  clear hi563_0 hl563_0
                                  replace p563 := eq_true p563
                                  replace q563 := eq_true q563
                                  have q58 : ((ji45) : Int) ≤ (((rd_L3 t549 x14_4).length : Int) : Int) := of_decide_eq_true aK
                                  obtain ⟨i058, hi058, _, hsz58, _⟩ := info_parts info3
                                  have hroom58 : (rd_L3 t549 x14_4).length ≤ c563_0 := HC563_0.out
                                  have hC58 : Kd.F (Kd.int .i64) _ _ A563_0 (rd_L3 t549 x14_4).length (rd_L3 t549 x14_4) := (Kd.V_at (base := w.heap.size) HL563_0.out).2.2
                                  have hcut58 := cut_to (P := Tryd.prog) 23 3 .i64 Tryd.underlying23 hi058 A563_0 (rd_L3 t549 x14_4).length c563_0 (ji45) (of_decide_eq_true aK) q58 hroom58
                                  have hr58 := Kd.F_take (m := ((ji45) : Int).toNat) hC58 (by omega)
                                  have hy58 : y564.length = ((ji45) : Int).toNat := (by rw [Ny564.out, List.length_take]; omega)
                                  rw [← Ny564.out] at hr58
                                  rw [← hy58] at hcut58
                                  have HO568 := Aside0.mk (show Kd.V (Kd.int .i64) 3 _ w.heap.size _ (.slice A563_0 y564.length c563_0) y564 from Kd.V_mk (by omega) hr58)
                                  have HC568 := Aside0.mk (show y564.length ≤ c563_0 from by omega)
                                  clear hr58 hC58 hroom58 hi058 hsz58
                                  have KY58 := Aside0.mk hy58
                                  clear hy58
                                  replace q58 := eq_true q58
                                  have p570 : 0 ≤ (x13_3 : Int) := of_decide_eq_true aK
                                  have q570 : x13_3 < (t545.length : Int) := of_decide_eq_true aK
                                  obtain ⟨ad570, A570_0, c570_0, e570, hx570_0, hl570_0, hi570_0⟩ := at_L3 (Kd.N_reads' HO_9.out).2.2 x13_3 p570 q570
                                  obtain rfl : ad555 = ad570 := (by injection e570)
                                  obtain ⟨ce570, hce570, hMe570, hcc570⟩ := Kd.N_get HO_9.out [] x13_3 p570 (by first | exact q570 | exact of_decide_eq_true aK | (have e_ := (Kd.N_reads' HO_9.out).1; omega))
                                  obtain ⟨ua570_0, uc570_0, rfl, ul570_0, ge570_0⟩ := Kd.FK_slice_open hMe570
                                  have hv570_0 := hcc570 0 _ rfl
                                  rw [Nat.add_zero, show ((Kd.slice 3 (Kd.int .i64))).sz = 1 from rfl, Nat.mul_one] at hv570_0
                                  replace hv570_0 := Option.some.inj (hv570_0.symm.trans hx570_0)
                                  injection hv570_0 with hva_ hvn_ hvc_
                                  rw [hva_] at ge570_0
                                  rw [hvc_] at ul570_0
                                  have HL570_0 := Aside0.mk (show Kd.V (Kd.int .i64) 3 _ w.heap.size _ _ (rd_L3 t545 x13_3) from Kd.V_mk ul570_0 ge570_0)
                                  clear hva_ hvn_ hvc_ ge570_0 ul570_0
                                  clear hcc570 hce570
                                  have HR570_0 := Aside0.mk hi570_0
                                  have HC570_0 := Aside0.mk hl570_0
                                  clear hi570_0 hl570_0
                                  replace p570 := eq_true p570
                                  replace q570 := eq_true q570
                                  have ea_ := Option.some.inj (hx557_0.symm.trans hx570_0)
                                  injection ea_ with ea_ en_ ec_
                                  subst ea_
                                  subst ec_
                                  clear en_
                                  have p571 : 0 ≤ ((ji40) : Int) := of_decide_eq_true aK
                                  have q571 : (ji40) < ((rd_L3 t545 x13_3).length : Int) := of_decide_eq_true aK
                                  obtain ⟨ad571, e571, hx571_0⟩ := Kd.at_int (by repeat (first | (with_reducible exact HR570_0.out) | (with_reducible refine Kd.C_alloc ?_ _) | (with_reducible refine Kd.C_drewN ?_ _) | (with_reducible refine Kd.C_drew ?_) | exact HR570_0.out)) (ji40) p571 q571
                                  cases e571
                                  replace p571 := eq_true p571
                                  replace q571 := eq_true q571
                                  have p572 : 0 ≤ (x14_4 : Int) := of_decide_eq_true aK
                                  have q572 : x14_4 < (t549.length : Int) := of_decide_eq_true aK
                                  obtain ⟨ad572, A572_0, c572_0, e572, hx572_0, hl572_0, hi572_0⟩ := at_L3 (Kd.N_reads' HO_11.out).2.2 x14_4 p572 q572
                                  obtain rfl : ad556 = ad572 := (by injection e572)
                                  obtain ⟨ce572, hce572, hMe572, hcc572⟩ := Kd.N_get HO_11.out [] x14_4 p572 (by first | exact q572 | exact of_decide_eq_true aK | (have e_ := (Kd.N_reads' HO_11.out).1; omega))
                                  obtain ⟨ua572_0, uc572_0, rfl, ul572_0, ge572_0⟩ := Kd.FK_slice_open hMe572
                                  have hv572_0 := hcc572 0 _ rfl
                                  rw [Nat.add_zero, show ((Kd.slice 3 (Kd.int .i64))).sz = 1 from rfl, Nat.mul_one] at hv572_0
                                  replace hv572_0 := Option.some.inj (hv572_0.symm.trans hx572_0)
                                  injection hv572_0 with hva_ hvn_ hvc_
                                  rw [hva_] at ge572_0
                                  rw [hvc_] at ul572_0
                                  have HL572_0 := Aside0.mk (show Kd.V (Kd.int .i64) 3 _ w.heap.size _ _ (rd_L3 t549 x14_4) from Kd.V_mk ul572_0 ge572_0)
                                  clear hva_ hvn_ hvc_ ge572_0 ul572_0
                                  clear hcc572 hce572
                                  have HR572_0 := Aside0.mk hi572_0
                                  have HC572_0 := Aside0.mk hl572_0
                                  clear hi572_0 hl572_0
                                  replace p572 := eq_true p572
                                  replace q572 := eq_true q572
                                  have ea_ := Option.some.inj (hx563_0.symm.trans hx572_0)
                                  injection ea_ with ea_ en_ ec_
                                  subst ea_
                                  subst ec_
                                  clear en_
                                  have p573 : 0 ≤ ((ji45) : Int) := of_decide_eq_true aK
                                  have q573 : (ji45) < ((rd_L3 t549 x14_4).length : Int) := of_decide_eq_true aK
                                  obtain ⟨ad573, e573, hx573_0⟩ := Kd.at_int (by repeat (first | (with_reducible exact HR572_0.out) | (with_reducible refine Kd.C_alloc ?_ _) | (with_reducible refine Kd.C_drewN ?_ _) | (with_reducible refine Kd.C_drew ?_) | exact HR572_0.out)) (ji45) p573 q573
                                  cases e573
                                  replace p573 := eq_true p573
                                  replace q573 := eq_true q573
                                  have p574 : 0 ≤ (x13_3 : Int) := of_decide_eq_true aK
                                  have q574 : x13_3 < (t545.length : Int) := of_decide_eq_true aK
                                  obtain ⟨ad574, A574_0, c574_0, e574, hx574_0, hl574_0, hi574_0⟩ := at_L3 (Kd.N_reads' HO_9.out).2.2 x13_3 p574 q574
                                  obtain rfl : ad555 = ad574 := (by injection e574)
                                  obtain ⟨ce574, hce574, hMe574, hcc574⟩ := Kd.N_get HO_9.out [] x13_3 p574 (by first | exact q574 | exact of_decide_eq_true aK | (have e_ := (Kd.N_reads' HO_9.out).1; omega))
                                  obtain ⟨ua574_0, uc574_0, rfl, ul574_0, ge574_0⟩ := Kd.FK_slice_open hMe574
                                  have hv574_0 := hcc574 0 _ rfl
                                  rw [Nat.add_zero, show ((Kd.slice 3 (Kd.int .i64))).sz = 1 from rfl, Nat.mul_one] at hv574_0
                                  replace hv574_0 := Option.some.inj (hv574_0.symm.trans hx574_0)
                                  injection hv574_0 with hva_ hvn_ hvc_
                                  rw [hva_] at ge574_0
                                  rw [hvc_] at ul574_0
                                  have HL574_0 := Aside0.mk (show Kd.V (Kd.int .i64) 3 _ w.heap.size _ _ (rd_L3 t545 x13_3) from Kd.V_mk ul574_0 ge574_0)
                                  clear hva_ hvn_ hvc_ ge574_0 ul574_0
                                  clear hcc574 hce574
                                  have HR574_0 := Aside0.mk hi574_0
                                  have HC574_0 := Aside0.mk hl574_0
                                  clear hi574_0 hl574_0
                                  replace p574 := eq_true p574
                                  replace q574 := eq_true q574
                                  have ea_ := Option.some.inj (hx557_0.symm.trans hx574_0)
                                  injection ea_ with ea_ en_ ec_
                                  subst ea_
                                  subst ec_
                                  clear en_
                                  have p575 : 0 ≤ ((ji40) : Int) := of_decide_eq_true aK
                                  have q575 : (ji40) < ((rd_L3 t545 x13_3).length : Int) := of_decide_eq_true aK
                                  obtain ⟨ad575, e575, hx575_0⟩ := Kd.at_int (by repeat (first | (with_reducible exact HR574_0.out) | (with_reducible refine Kd.C_alloc ?_ _) | (with_reducible refine Kd.C_drewN ?_ _) | (with_reducible refine Kd.C_drew ?_) | exact HR574_0.out)) (ji40) p575 q575
                                  cases e575
                                  replace p575 := eq_true p575
                                  replace q575 := eq_true q575
                                  have p576 : 0 ≤ (x14_4 : Int) := of_decide_eq_true aK
                                  have q576 : x14_4 < (t549.length : Int) := of_decide_eq_true aK
                                  obtain ⟨ad576, A576_0, c576_0, e576, hx576_0, hl576_0, hi576_0⟩ := at_L3 (Kd.N_reads' HO_11.out).2.2 x14_4 p576 q576
                                  obtain rfl : ad556 = ad576 := (by injection e576)
                                  obtain ⟨ce576, hce576, hMe576, hcc576⟩ := Kd.N_get HO_11.out [] x14_4 p576 (by first | exact q576 | exact of_decide_eq_true aK | (have e_ := (Kd.N_reads' HO_11.out).1; omega))
                                  obtain ⟨ua576_0, uc576_0, rfl, ul576_0, ge576_0⟩ := Kd.FK_slice_open hMe576
                                  have hv576_0 := hcc576 0 _ rfl
                                  rw [Nat.add_zero, show ((Kd.slice 3 (Kd.int .i64))).sz = 1 from rfl, Nat.mul_one] at hv576_0
                                  replace hv576_0 := Option.some.inj (hv576_0.symm.trans hx576_0)
                                  injection hv576_0 with hva_ hvn_ hvc_
                                  rw [hva_] at ge576_0
                                  rw [hvc_] at ul576_0
                                  have HL576_0 := Aside0.mk (show Kd.V (Kd.int .i64) 3 _ w.heap.size _ _ (rd_L3 t549 x14_4) from Kd.V_mk ul576_0 ge576_0)
                                  clear hva_ hvn_ hvc_ ge576_0 ul576_0
                                  clear hcc576 hce576
                                  have HR576_0 := Aside0.mk hi576_0
                                  have HC576_0 := Aside0.mk hl576_0
                                  clear hi576_0 hl576_0
                                  replace p576 := eq_true p576
                                  replace q576 := eq_true q576
                                  have ea_ := Option.some.inj (hx563_0.symm.trans hx576_0)
                                  injection ea_ with ea_ en_ ec_
                                  subst ea_
                                  subst ec_
                                  clear en_
                                  have p577 : 0 ≤ ((ji45) : Int) := of_decide_eq_true aK
                                  have q577 : (ji45) < ((rd_L3 t549 x14_4).length : Int) := of_decide_eq_true aK
                                  obtain ⟨ad577, e577, hx577_0⟩ := Kd.at_int (by repeat (first | (with_reducible exact HR576_0.out) | (with_reducible refine Kd.C_alloc ?_ _) | (with_reducible refine Kd.C_drewN ?_ _) | (with_reducible refine Kd.C_drew ?_) | exact HR576_0.out)) (ji45) p577 q577
                                  cases e577
                                  replace p577 := eq_true p577
                                  replace q577 := eq_true q577
                                  go_wp2
                                  go_big_quiet ((go_at_call 20; (with_reducible refine (quaerelaw0_SameInts.calls kj33 _ _ y558 _ _ y564 true _ ?side1 ?side2 ?side3 ?side4 A48.out).mono ?_); (case side1 => exact cK ((Kd.V_reads' HO562.out).2.2)); (case side2 => exact (Kd.V_reads' HO562.out).2.1); (case side3 => exact cK ((Kd.V_reads' HO568.out).2.2)); (case side4 => exact (Kd.V_reads' HO568.out).2.1); rintro e w' ⟨rfl, ⟨nd, rfl⟩⟩; (first | exact ⟨rfl, _, World.drewN_drewN _ _ _⟩ | exact ⟨rfl, _, Eq.trans (World.drewN_drewN _ _ _) (congrArg (World.drewN _) (Nat.add_assoc _ _ _))⟩)))
                                  go_wp2
                                  go_ret
                                  exact ⟨by first | rfl | (simp [errW_none, errW_some] <;> rfl) | (simp only [← hji40, ← hji45]; first | rfl | (simp [errW_none, errW_some] <;> rfl)) | (simp [*, errW_none, errW_some] <;> rfl), bB⟩
                                 ·rw [if_neg c56] at H
                                  have c56b0 : decide (0 ≤ (rd (rd_L3 t549 x14_4) (ji45))) = false := decide_eq_false c56
                                  clear c56
                                  have H' := Aside0.mk H
                                  clear H
                                  have p557 : 0 ≤ (x13_3 : Int) := of_decide_eq_true aK
                                  have q557 : x13_3 < (t545.length : Int) := of_decide_eq_true aK
                                  obtain ⟨ad557, A557_0, c557_0, e557, hx557_0, hl557_0, hi557_0⟩ := at_L3 (Kd.N_reads' HO_9.out).2.2 x13_3 p557 q557
                                  obtain rfl : ad555 = ad557 := (by injection e557)
                                  obtain ⟨ce557, hce557, hMe557, hcc557⟩ := Kd.N_get HO_9.out [] x13_3 p557 (by first | exact q557 | exact of_decide_eq_true aK | (have e_ := (Kd.N_reads' HO_9.out).1; omega))
                                  obtain ⟨ua557_0, uc557_0, rfl, ul557_0, ge557_0⟩ := Kd.FK_slice_open hMe557
                                  have hv557_0 := hcc557 0 _ rfl
                                  rw [Nat.add_zero, show ((Kd.slice 3 (Kd.int .i64))).sz = 1 from rfl, Nat.mul_one] at hv557_0
                                  replace hv557_0 := Option.some.inj (hv557_0.symm.trans hx557_0)
                                  injection hv557_0 with hva_ hvn_ hvc_
                                  rw [hva_] at ge557_0
                                  rw [hvc_] at ul557_0
                                  have HL557_0 := Aside0.mk (show Kd.V (Kd.int .i64) 3 _ w.heap.size _ _ (rd_L3 t545 x13_3) from Kd.V_mk ul557_0 ge557_0)
                                  clear hva_ hvn_ hvc_ ge557_0 ul557_0 hcc557 hce557
                                  have HR557_0 := Aside0.mk hi557_0
                                  have HC557_0 := Aside0.mk hl557_0
                                  clear hi557_0 hl557_0
                                  replace p557 := eq_true p557
                                  replace q557 := eq_true q557
                                  have q59 : ((ji40) : Int) ≤ (((rd_L3 t545 x13_3).length : Int) : Int) := of_decide_eq_true aK
                                  obtain ⟨i059, hi059, _, hsz59, _⟩ := info_parts info3
                                  have hroom59 : (rd_L3 t545 x13_3).length ≤ c557_0 := HC557_0.out
                                  have hC59 : Kd.F (Kd.int .i64) _ _ A557_0 (rd_L3 t545 x13_3).length (rd_L3 t545 x13_3) := (Kd.V_at (base := w.heap.size) HL557_0.out).2.2
                                  have hcut59 := cut_to (P := Tryd.prog) 23 3 .i64 Tryd.underlying23 hi059 A557_0 (rd_L3 t545 x13_3).length c557_0 (ji40) (of_decide_eq_true aK) q59 hroom59
                                  have hr59 := Kd.F_take (m := ((ji40) : Int).toNat) hC59 (by omega)
                                  have hy59 : y558.length = ((ji40) : Int).toNat := (by rw [Ny558.out, List.length_take]; omega)
                                  rw [← Ny558.out] at hr59
                                  rw [← hy59] at hcut59
                                  have HO562 := Aside0.mk (show Kd.V (Kd.int .i64) 3 _ w.heap.size _ (.slice A557_0 y558.length c557_0) y558 from Kd.V_mk (by omega) hr59)
                                  have HC562 := Aside0.mk (show y558.length ≤ c557_0 from by omega)
                                  clear hr59 hC59 hroom59 hi059 hsz59
                                  have KY59 := Aside0.mk hy59
                                  clear hy59
                                  replace q59 := eq_true q59
                                  have p563 : 0 ≤ (x14_4 : Int) := of_decide_eq_true aK
                                  have q563 : x14_4 < (t549.length : Int) := of_decide_eq_true aK
                                  obtain ⟨ad563, A563_0, c563_0, e563, hx563_0, hl563_0, hi563_0⟩ := at_L3 (Kd.N_reads' HO_11.out).2.2 x14_4 p563 q563
                                  obtain rfl : ad556 = ad563 := (by injection e563)
                                  obtain ⟨ce563, hce563, hMe563, hcc563⟩ := Kd.N_get HO_11.out [] x14_4 p563 (by first | exact q563 | exact of_decide_eq_true aK | (have e_ := (Kd.N_reads' HO_11.out).1; omega))
                                  obtain ⟨ua563_0, uc563_0, rfl, ul563_0, ge563_0⟩ := Kd.FK_slice_open hMe563
                                  have hv563_0 := hcc563 0 _ rfl
                                  rw [Nat.add_zero, show ((Kd.slice 3 (Kd.int .i64))).sz = 1 from rfl, Nat.mul_one] at hv563_0
                                  replace hv563_0 := Option.some.inj (hv563_0.symm.trans hx563_0)
                                  injection hv563_0 with hva_ hvn_ hvc_
                                  rw [hva_] at ge563_0
                                  rw [hvc_] at ul563_0
                                  have HL563_0 := Aside0.mk (show Kd.V (Kd.int .i64) 3 _ w.heap.size _ _ (rd_L3 t549 x14_4) from Kd.V_mk ul563_0 ge563_0)
                                  clear hva_ hvn_ hvc_ ge563_0 ul563_0 hcc563 hce563
                                  have HR563_0 := Aside0.mk hi563_0
                                  have HC563_0 := Aside0.mk hl563_0
                                  clear hi563_0 hl563_0
                                  replace p563 := eq_true p563
                                  replace q563 := eq_true q563
                                  have q60 : ((ji45) : Int) ≤ (((rd_L3 t549 x14_4).length : Int) : Int) := of_decide_eq_true aK
                                  obtain ⟨i060, hi060, _, hsz60, _⟩ := info_parts info3
                                  have hroom60 : (rd_L3 t549 x14_4).length ≤ c563_0 := HC563_0.out
                                  have hC60 : Kd.F (Kd.int .i64) _ _ A563_0 (rd_L3 t549 x14_4).length (rd_L3 t549 x14_4) := (Kd.V_at (base := w.heap.size) HL563_0.out).2.2
                                  have hcut60 := cut_to (P := Tryd.prog) 23 3 .i64 Tryd.underlying23 hi060 A563_0 (rd_L3 t549 x14_4).length c563_0 (ji45) (of_decide_eq_true aK) q60 hroom60
                                  have hr60 := Kd.F_take (m := ((ji45) : Int).toNat) hC60 (by omega)
                                  have hy60 : y564.length = ((ji45) : Int).toNat := (by rw [Ny564.out, List.length_take]; omega)
                                  rw [← Ny564.out] at hr60
                                  rw [← hy60] at hcut60
                                  have HO568 := Aside0.mk (show Kd.V (Kd.int .i64) 3 _ w.heap.size _ (.slice A563_0 y564.length c563_0) y564 from Kd.V_mk (by omega) hr60)
                                  have HC568 := Aside0.mk (show y564.length ≤ c563_0 from by omega)
                                  clear hr60 hC60 hroom60 hi060 hsz60
                                  have KY60 := Aside0.mk hy60
                                  clear hy60
                                  replace q60 := eq_true q60
                                  have p570 : 0 ≤ (x13_3 : Int) := of_decide_eq_true aK
                                  have q570 : x13_3 < (t545.length : Int) := of_decide_eq_true aK
                                  obtain ⟨ad570, A570_0, c570_0, e570, hx570_0, hl570_0, hi570_0⟩ := at_L3 (Kd.N_reads' HO_9.out).2.2 x13_3 p570 q570
                                  obtain rfl : ad555 = ad570 := (by injection e570)
                                  obtain ⟨ce570, hce570, hMe570, hcc570⟩ := Kd.N_get HO_9.out [] x13_3 p570 (by first | exact q570 | exact of_decide_eq_true aK | (have e_ := (Kd.N_reads' HO_9.out).1; omega))
                                  obtain ⟨ua570_0, uc570_0, rfl, ul570_0, ge570_0⟩ := Kd.FK_slice_open hMe570
                                  have hv570_0 := hcc570 0 _ rfl
                                  rw [Nat.add_zero, show ((Kd.slice 3 (Kd.int .i64))).sz = 1 from rfl, Nat.mul_one] at hv570_0
                                  replace hv570_0 := Option.some.inj (hv570_0.symm.trans hx570_0)
                                  injection hv570_0 with hva_ hvn_ hvc_
                                  rw [hva_] at ge570_0
                                  rw [hvc_] at ul570_0
                                  have HL570_0 := Aside0.mk (show Kd.V (Kd.int .i64) 3 _ w.heap.size _ _ (rd_L3 t545 x13_3) from Kd.V_mk ul570_0 ge570_0)
                                  clear hva_ hvn_ hvc_ ge570_0 ul570_0
                                  clear hcc570 hce570
                                  have HR570_0 := Aside0.mk hi570_0
                                  have HC570_0 := Aside0.mk hl570_0
                                  clear hi570_0 hl570_0
                                  replace p570 := eq_true p570
                                  replace q570 := eq_true q570
                                  have ea_ := Option.some.inj (hx557_0.symm.trans hx570_0)
                                  injection ea_ with ea_ en_ ec_
                                  subst ea_
                                  subst ec_
                                  clear en_
                                  have p571 : 0 ≤ ((ji40) : Int) := of_decide_eq_true aK
                                  have q571 : (ji40) < ((rd_L3 t545 x13_3).length : Int) := of_decide_eq_true aK
                                  obtain ⟨ad571, e571, hx571_0⟩ := Kd.at_int (by repeat (first | (with_reducible exact HR570_0.out) | (with_reducible refine Kd.C_alloc ?_ _) | (with_reducible refine Kd.C_drewN ?_ _) | (with_reducible refine Kd.C_drew ?_) | exact HR570_0.out)) (ji40) p571 q571
                                  cases e571
                                  replace p571 := eq_true p571
                                  replace q571 := eq_true q571
                                  have p572 : 0 ≤ (x14_4 : Int) := of_decide_eq_true aK
                                  have q572 : x14_4 < (t549.length : Int) := of_decide_eq_true aK
                                  obtain ⟨ad572, A572_0, c572_0, e572, hx572_0, hl572_0, hi572_0⟩ := at_L3 (Kd.N_reads' HO_11.out).2.2 x14_4 p572 q572
                                  obtain rfl : ad556 = ad572 := (by injection e572)
                                  obtain ⟨ce572, hce572, hMe572, hcc572⟩ := Kd.N_get HO_11.out [] x14_4 p572 (by first | exact q572 | exact of_decide_eq_true aK | (have e_ := (Kd.N_reads' HO_11.out).1; omega))
                                  obtain ⟨ua572_0, uc572_0, rfl, ul572_0, ge572_0⟩ := Kd.FK_slice_open hMe572
                                  have hv572_0 := hcc572 0 _ rfl
                                  rw [Nat.add_zero, show ((Kd.slice 3 (Kd.int .i64))).sz = 1 from rfl, Nat.mul_one] at hv572_0
                                  replace hv572_0 := Option.some.inj (hv572_0.symm.trans hx572_0)
                                  injection hv572_0 with hva_ hvn_ hvc_
                                  rw [hva_] at ge572_0
                                  rw [hvc_] at ul572_0
                                  have HL572_0 := Aside0.mk (show Kd.V (Kd.int .i64) 3 _ w.heap.size _ _ (rd_L3 t549 x14_4) from Kd.V_mk ul572_0 ge572_0)
                                  clear hva_ hvn_ hvc_ ge572_0 ul572_0
                                  clear hcc572 hce572
                                  have HR572_0 := Aside0.mk hi572_0
                                  have HC572_0 := Aside0.mk hl572_0
                                  clear hi572_0 hl572_0
                                  replace p572 := eq_true p572
                                  replace q572 := eq_true q572
                                  have ea_ := Option.some.inj (hx563_0.symm.trans hx572_0)
                                  injection ea_ with ea_ en_ ec_
                                  subst ea_
                                  subst ec_
                                  clear en_
                                  have p573 : 0 ≤ ((ji45) : Int) := of_decide_eq_true aK
                                  have q573 : (ji45) < ((rd_L3 t549 x14_4).length : Int) := of_decide_eq_true aK
                                  obtain ⟨ad573, e573, hx573_0⟩ := Kd.at_int (by repeat (first | (with_reducible exact HR572_0.out) | (with_reducible refine Kd.C_alloc ?_ _) | (with_reducible refine Kd.C_drewN ?_ _) | (with_reducible refine Kd.C_drew ?_) | exact HR572_0.out)) (ji45) p573 q573
                                  cases e573
                                  replace p573 := eq_true p573
                                  replace q573 := eq_true q573
                                  have p574 : 0 ≤ (x13_3 : Int) := of_decide_eq_true aK
                                  have q574 : x13_3 < (t545.length : Int) := of_decide_eq_true aK
                                  obtain ⟨ad574, A574_0, c574_0, e574, hx574_0, hl574_0, hi574_0⟩ := at_L3 (Kd.N_reads' HO_9.out).2.2 x13_3 p574 q574
                                  obtain rfl : ad555 = ad574 := (by injection e574)
                                  obtain ⟨ce574, hce574, hMe574, hcc574⟩ := Kd.N_get HO_9.out [] x13_3 p574 (by first | exact q574 | exact of_decide_eq_true aK | (have e_ := (Kd.N_reads' HO_9.out).1; omega))
                                  obtain ⟨ua574_0, uc574_0, rfl, ul574_0, ge574_0⟩ := Kd.FK_slice_open hMe574
                                  have hv574_0 := hcc574 0 _ rfl
                                  rw [Nat.add_zero, show ((Kd.slice 3 (Kd.int .i64))).sz = 1 from rfl, Nat.mul_one] at hv574_0
                                  replace hv574_0 := Option.some.inj (hv574_0.symm.trans hx574_0)
                                  injection hv574_0 with hva_ hvn_ hvc_
                                  rw [hva_] at ge574_0
                                  rw [hvc_] at ul574_0
                                  have HL574_0 := Aside0.mk (show Kd.V (Kd.int .i64) 3 _ w.heap.size _ _ (rd_L3 t545 x13_3) from Kd.V_mk ul574_0 ge574_0)
                                  clear hva_ hvn_ hvc_ ge574_0 ul574_0
                                  clear hcc574 hce574
                                  have HR574_0 := Aside0.mk hi574_0
                                  have HC574_0 := Aside0.mk hl574_0
                                  clear hi574_0 hl574_0
                                  replace p574 := eq_true p574
                                  replace q574 := eq_true q574
                                  have ea_ := Option.some.inj (hx557_0.symm.trans hx574_0)
                                  injection ea_ with ea_ en_ ec_
                                  subst ea_
                                  subst ec_
                                  clear en_
                                  have p575 : 0 ≤ ((ji40) : Int) := of_decide_eq_true aK
                                  have q575 : (ji40) < ((rd_L3 t545 x13_3).length : Int) := of_decide_eq_true aK
                                  obtain ⟨ad575, e575, hx575_0⟩ := Kd.at_int (by repeat (first | (with_reducible exact HR574_0.out) | (with_reducible refine Kd.C_alloc ?_ _) | (with_reducible refine Kd.C_drewN ?_ _) | (with_reducible refine Kd.C_drew ?_) | exact HR574_0.out)) (ji40) p575 q575
                                  cases e575
                                  replace p575 := eq_true p575
                                  replace q575 := eq_true q575
                                  have p576 : 0 ≤ (x14_4 : Int) := of_decide_eq_true aK
                                  have q576 : x14_4 < (t549.length : Int) := of_decide_eq_true aK
                                  obtain ⟨ad576, A576_0, c576_0, e576, hx576_0, hl576_0, hi576_0⟩ := at_L3 (Kd.N_reads' HO_11.out).2.2 x14_4 p576 q576
                                  obtain rfl : ad556 = ad576 := (by injection e576)
                                  obtain ⟨ce576, hce576, hMe576, hcc576⟩ := Kd.N_get HO_11.out [] x14_4 p576 (by first | exact q576 | exact of_decide_eq_true aK | (have e_ := (Kd.N_reads' HO_11.out).1; omega))
                                  obtain ⟨ua576_0, uc576_0, rfl, ul576_0, ge576_0⟩ := Kd.FK_slice_open hMe576
                                  have hv576_0 := hcc576 0 _ rfl
                                  rw [Nat.add_zero, show ((Kd.slice 3 (Kd.int .i64))).sz = 1 from rfl, Nat.mul_one] at hv576_0
                                  replace hv576_0 := Option.some.inj (hv576_0.symm.trans hx576_0)
                                  injection hv576_0 with hva_ hvn_ hvc_
                                  rw [hva_] at ge576_0
                                  rw [hvc_] at ul576_0
                                  have HL576_0 := Aside0.mk (show Kd.V (Kd.int .i64) 3 _ w.heap.size _ _ (rd_L3 t549 x14_4) from Kd.V_mk ul576_0 ge576_0)
                                  clear hva_ hvn_ hvc_ ge576_0 ul576_0
                                  clear hcc576 hce576
                                  have HR576_0 := Aside0.mk hi576_0
                                  have HC576_0 := Aside0.mk hl576_0
                                  clear hi576_0 hl576_0
                                  replace p576 := eq_true p576
                                  replace q576 := eq_true q576
                                  have ea_ := Option.some.inj (hx563_0.symm.trans hx576_0)
                                  injection ea_ with ea_ en_ ec_
                                  subst ea_
                                  subst ec_
                                  clear en_
                                  have p577 : 0 ≤ ((ji45) : Int) := of_decide_eq_true aK
                                  have q577 : (ji45) < ((rd_L3 t549 x14_4).length : Int) := of_decide_eq_true aK
                                  obtain ⟨ad577, e577, hx577_0⟩ := Kd.at_int (by repeat (first | (with_reducible exact HR576_0.out) | (with_reducible refine Kd.C_alloc ?_ _) | (with_reducible refine Kd.C_drewN ?_ _) | (with_reducible refine Kd.C_drew ?_) | exact HR576_0.out)) (ji45) p577 q577
                                  cases e577
                                  replace p577 := eq_true p577
                                  replace q577 := eq_true q577
                                  go_wp2
                                  go_big_quiet ((go_at_call 20; (with_reducible refine (quaerelaw0_SameInts.calls kj33 _ _ y558 _ _ y564 true _ ?side1 ?side2 ?side3 ?side4 A48.out).mono ?_); (case side1 => exact cK ((Kd.V_reads' HO562.out).2.2)); (case side2 => exact (Kd.V_reads' HO562.out).2.1); (case side3 => exact cK ((Kd.V_reads' HO568.out).2.2)); (case side4 => exact (Kd.V_reads' HO568.out).2.1); rintro e w' ⟨rfl, ⟨nd, rfl⟩⟩; (first | exact ⟨rfl, _, World.drewN_drewN _ _ _⟩ | exact ⟨rfl, _, Eq.trans (World.drewN_drewN _ _ _) (congrArg (World.drewN _) (Nat.add_assoc _ _ _))⟩)))
                                  go_wp2
                                  go_roundg kj33
                                  case measure => have := HJ6.out; have := HJ20.out; have := HK3.out; have := HK4.out; have := HJ33.out; omega
                                  case rel => exact ⟨(wrap64 (x14_4 + 1)), sK, H', ⟨by have := HJ6.out; have := HJ20.out; have := HK3.out; have := HK4.out; have := HJ33.out; omega⟩, ⟨by (with_reducible repeat (first | apply Kd.N_alloc | apply Kd.N_drewN | apply Kd.N_drew)); exact HO_9.out⟩, ⟨by (with_reducible repeat (first | apply Kd.N_alloc | apply Kd.N_drewN | apply Kd.N_drew)); exact HO_11.out⟩, ⟨bB⟩⟩
                                ·rw [if_neg c55] at H
                                 have c55b0 : decide (0 ≤ (rd (rd_L3 t545 x13_3) (ji40))) = false := decide_eq_false c55
                                 clear c55
                                 have H' := Aside0.mk H
                                 clear H
                                 have p557 : 0 ≤ (x13_3 : Int) := of_decide_eq_true aK
                                 have q557 : x13_3 < (t545.length : Int) := of_decide_eq_true aK
                                 obtain ⟨ad557, A557_0, c557_0, e557, hx557_0, hl557_0, hi557_0⟩ := at_L3 (Kd.N_reads' HO_9.out).2.2 x13_3 p557 q557
                                 obtain rfl : ad555 = ad557 := (by injection e557)
                                 obtain ⟨ce557, hce557, hMe557, hcc557⟩ := Kd.N_get HO_9.out [] x13_3 p557 (by first | exact q557 | exact of_decide_eq_true aK | (have e_ := (Kd.N_reads' HO_9.out).1; omega))
                                 obtain ⟨ua557_0, uc557_0, rfl, ul557_0, ge557_0⟩ := Kd.FK_slice_open hMe557
                                 have hv557_0 := hcc557 0 _ rfl
                                 rw [Nat.add_zero, show ((Kd.slice 3 (Kd.int .i64))).sz = 1 from rfl, Nat.mul_one] at hv557_0
                                 replace hv557_0 := Option.some.inj (hv557_0.symm.trans hx557_0)
                                 injection hv557_0 with hva_ hvn_ hvc_
                                 rw [hva_] at ge557_0
                                 rw [hvc_] at ul557_0
                                 have HL557_0 := Aside0.mk (show Kd.V (Kd.int .i64) 3 _ w.heap.size _ _ (rd_L3 t545 x13_3) from Kd.V_mk ul557_0 ge557_0)
                                 clear hva_ hvn_ hvc_ ge557_0 ul557_0 hcc557 hce557
                                 have HR557_0 := Aside0.mk hi557_0
                                 have HC557_0 := Aside0.mk hl557_0
                                 clear hi557_0 hl557_0
                                 replace p557 := eq_true p557
                                 replace q557 := eq_true q557
                                 have q61 : ((ji40) : Int) ≤ (((rd_L3 t545 x13_3).length : Int) : Int) := of_decide_eq_true aK
                                 obtain ⟨i061, hi061, _, hsz61, _⟩ := info_parts info3
                                 have hroom61 : (rd_L3 t545 x13_3).length ≤ c557_0 := HC557_0.out
                                 have hC61 : Kd.F (Kd.int .i64) _ _ A557_0 (rd_L3 t545 x13_3).length (rd_L3 t545 x13_3) := (Kd.V_at (base := w.heap.size) HL557_0.out).2.2
                                 have hcut61 := cut_to (P := Tryd.prog) 23 3 .i64 Tryd.underlying23 hi061 A557_0 (rd_L3 t545 x13_3).length c557_0 (ji40) (of_decide_eq_true aK) q61 hroom61
                                 have hr61 := Kd.F_take (m := ((ji40) : Int).toNat) hC61 (by omega)
                                 have hy61 : y558.length = ((ji40) : Int).toNat := (by rw [Ny558.out, List.length_take]; omega)
                                 rw [← Ny558.out] at hr61
                                 rw [← hy61] at hcut61
                                 have HO562 := Aside0.mk (show Kd.V (Kd.int .i64) 3 _ w.heap.size _ (.slice A557_0 y558.length c557_0) y558 from Kd.V_mk (by omega) hr61)
                                 have HC562 := Aside0.mk (show y558.length ≤ c557_0 from by omega)
                                 clear hr61 hC61 hroom61 hi061 hsz61
                                 have KY61 := Aside0.mk hy61
                                 clear hy61
                                 replace q61 := eq_true q61
                                 have p563 : 0 ≤ (x14_4 : Int) := of_decide_eq_true aK
                                 have q563 : x14_4 < (t549.length : Int) := of_decide_eq_true aK
                                 obtain ⟨ad563, A563_0, c563_0, e563, hx563_0, hl563_0, hi563_0⟩ := at_L3 (Kd.N_reads' HO_11.out).2.2 x14_4 p563 q563
                                 obtain rfl : ad556 = ad563 := (by injection e563)
                                 obtain ⟨ce563, hce563, hMe563, hcc563⟩ := Kd.N_get HO_11.out [] x14_4 p563 (by first | exact q563 | exact of_decide_eq_true aK | (have e_ := (Kd.N_reads' HO_11.out).1; omega))
                                 obtain ⟨ua563_0, uc563_0, rfl, ul563_0, ge563_0⟩ := Kd.FK_slice_open hMe563
                                 have hv563_0 := hcc563 0 _ rfl
                                 rw [Nat.add_zero, show ((Kd.slice 3 (Kd.int .i64))).sz = 1 from rfl, Nat.mul_one] at hv563_0
                                 replace hv563_0 := Option.some.inj (hv563_0.symm.trans hx563_0)
                                 injection hv563_0 with hva_ hvn_ hvc_
                                 rw [hva_] at ge563_0
                                 rw [hvc_] at ul563_0
                                 have HL563_0 := Aside0.mk (show Kd.V (Kd.int .i64) 3 _ w.heap.size _ _ (rd_L3 t549 x14_4) from Kd.V_mk ul563_0 ge563_0)
                                 clear hva_ hvn_ hvc_ ge563_0 ul563_0 hcc563 hce563
                                 have HR563_0 := Aside0.mk hi563_0
                                 have HC563_0 := Aside0.mk hl563_0
                                 clear hi563_0 hl563_0
                                 replace p563 := eq_true p563
                                 replace q563 := eq_true q563
                                 have q62 : ((ji45) : Int) ≤ (((rd_L3 t549 x14_4).length : Int) : Int) := of_decide_eq_true aK
                                 obtain ⟨i062, hi062, _, hsz62, _⟩ := info_parts info3
                                 have hroom62 : (rd_L3 t549 x14_4).length ≤ c563_0 := HC563_0.out
                                 have hC62 : Kd.F (Kd.int .i64) _ _ A563_0 (rd_L3 t549 x14_4).length (rd_L3 t549 x14_4) := (Kd.V_at (base := w.heap.size) HL563_0.out).2.2
                                 have hcut62 := cut_to (P := Tryd.prog) 23 3 .i64 Tryd.underlying23 hi062 A563_0 (rd_L3 t549 x14_4).length c563_0 (ji45) (of_decide_eq_true aK) q62 hroom62
                                 have hr62 := Kd.F_take (m := ((ji45) : Int).toNat) hC62 (by omega)
                                 have hy62 : y564.length = ((ji45) : Int).toNat := (by rw [Ny564.out, List.length_take]; omega)
                                 rw [← Ny564.out] at hr62
                                 rw [← hy62] at hcut62
                                 have HO568 := Aside0.mk (show Kd.V (Kd.int .i64) 3 _ w.heap.size _ (.slice A563_0 y564.length c563_0) y564 from Kd.V_mk (by omega) hr62)
                                 have HC568 := Aside0.mk (show y564.length ≤ c563_0 from by omega)
                                 clear hr62 hC62 hroom62 hi062 hsz62
                                 have KY62 := Aside0.mk hy62
                                 clear hy62
                                 replace q62 := eq_true q62
                                 have p570 : 0 ≤ (x13_3 : Int) := of_decide_eq_true aK
                                 have q570 : x13_3 < (t545.length : Int) := of_decide_eq_true aK
                                 obtain ⟨ad570, A570_0, c570_0, e570, hx570_0, hl570_0, hi570_0⟩ := at_L3 (Kd.N_reads' HO_9.out).2.2 x13_3 p570 q570
                                 obtain rfl : ad555 = ad570 := (by injection e570)
                                 obtain ⟨ce570, hce570, hMe570, hcc570⟩ := Kd.N_get HO_9.out [] x13_3 p570 (by first | exact q570 | exact of_decide_eq_true aK | (have e_ := (Kd.N_reads' HO_9.out).1; omega))
                                 obtain ⟨ua570_0, uc570_0, rfl, ul570_0, ge570_0⟩ := Kd.FK_slice_open hMe570
                                 have hv570_0 := hcc570 0 _ rfl
                                 rw [Nat.add_zero, show ((Kd.slice 3 (Kd.int .i64))).sz = 1 from rfl, Nat.mul_one] at hv570_0
                                 replace hv570_0 := Option.some.inj (hv570_0.symm.trans hx570_0)
                                 injection hv570_0 with hva_ hvn_ hvc_
                                 rw [hva_] at ge570_0
                                 rw [hvc_] at ul570_0
                                 have HL570_0 := Aside0.mk (show Kd.V (Kd.int .i64) 3 _ w.heap.size _ _ (rd_L3 t545 x13_3) from Kd.V_mk ul570_0 ge570_0)
                                 clear hva_ hvn_ hvc_ ge570_0 ul570_0
                                 clear hcc570 hce570
                                 have HR570_0 := Aside0.mk hi570_0
                                 have HC570_0 := Aside0.mk hl570_0
                                 clear hi570_0 hl570_0
                                 replace p570 := eq_true p570
                                 replace q570 := eq_true q570
                                 have ea_ := Option.some.inj (hx557_0.symm.trans hx570_0)
                                 injection ea_ with ea_ en_ ec_
                                 subst ea_
                                 subst ec_
                                 clear en_
                                 have p571 : 0 ≤ ((ji40) : Int) := of_decide_eq_true aK
                                 have q571 : (ji40) < ((rd_L3 t545 x13_3).length : Int) := of_decide_eq_true aK
                                 obtain ⟨ad571, e571, hx571_0⟩ := Kd.at_int (by repeat (first | (with_reducible exact HR570_0.out) | (with_reducible refine Kd.C_alloc ?_ _) | (with_reducible refine Kd.C_drewN ?_ _) | (with_reducible refine Kd.C_drew ?_) | exact HR570_0.out)) (ji40) p571 q571
                                 cases e571
                                 replace p571 := eq_true p571
                                 replace q571 := eq_true q571
                                 have p572 : 0 ≤ (x14_4 : Int) := of_decide_eq_true aK
                                 have q572 : x14_4 < (t549.length : Int) := of_decide_eq_true aK
                                 obtain ⟨ad572, A572_0, c572_0, e572, hx572_0, hl572_0, hi572_0⟩ := at_L3 (Kd.N_reads' HO_11.out).2.2 x14_4 p572 q572
                                 obtain rfl : ad556 = ad572 := (by injection e572)
                                 obtain ⟨ce572, hce572, hMe572, hcc572⟩ := Kd.N_get HO_11.out [] x14_4 p572 (by first | exact q572 | exact of_decide_eq_true aK | (have e_ := (Kd.N_reads' HO_11.out).1; omega))
                                 obtain ⟨ua572_0, uc572_0, rfl, ul572_0, ge572_0⟩ := Kd.FK_slice_open hMe572
                                 have hv572_0 := hcc572 0 _ rfl
                                 rw [Nat.add_zero, show ((Kd.slice 3 (Kd.int .i64))).sz = 1 from rfl, Nat.mul_one] at hv572_0
                                 replace hv572_0 := Option.some.inj (hv572_0.symm.trans hx572_0)
                                 injection hv572_0 with hva_ hvn_ hvc_
                                 rw [hva_] at ge572_0
                                 rw [hvc_] at ul572_0
                                 have HL572_0 := Aside0.mk (show Kd.V (Kd.int .i64) 3 _ w.heap.size _ _ (rd_L3 t549 x14_4) from Kd.V_mk ul572_0 ge572_0)
                                 clear hva_ hvn_ hvc_ ge572_0 ul572_0
                                 clear hcc572 hce572
                                 have HR572_0 := Aside0.mk hi572_0
                                 have HC572_0 := Aside0.mk hl572_0
                                 clear hi572_0 hl572_0
                                 replace p572 := eq_true p572
                                 replace q572 := eq_true q572
                                 have ea_ := Option.some.inj (hx563_0.symm.trans hx572_0)
                                 injection ea_ with ea_ en_ ec_
                                 subst ea_
                                 subst ec_
                                 clear en_
                                 have p573 : 0 ≤ ((ji45) : Int) := of_decide_eq_true aK
                                 have q573 : (ji45) < ((rd_L3 t549 x14_4).length : Int) := of_decide_eq_true aK
                                 obtain ⟨ad573, e573, hx573_0⟩ := Kd.at_int (by repeat (first | (with_reducible exact HR572_0.out) | (with_reducible refine Kd.C_alloc ?_ _) | (with_reducible refine Kd.C_drewN ?_ _) | (with_reducible refine Kd.C_drew ?_) | exact HR572_0.out)) (ji45) p573 q573
                                 cases e573
                                 replace p573 := eq_true p573
                                 replace q573 := eq_true q573
                                 have p574 : 0 ≤ (x13_3 : Int) := of_decide_eq_true aK
                                 have q574 : x13_3 < (t545.length : Int) := of_decide_eq_true aK
                                 obtain ⟨ad574, A574_0, c574_0, e574, hx574_0, hl574_0, hi574_0⟩ := at_L3 (Kd.N_reads' HO_9.out).2.2 x13_3 p574 q574
                                 obtain rfl : ad555 = ad574 := (by injection e574)
                                 obtain ⟨ce574, hce574, hMe574, hcc574⟩ := Kd.N_get HO_9.out [] x13_3 p574 (by first | exact q574 | exact of_decide_eq_true aK | (have e_ := (Kd.N_reads' HO_9.out).1; omega))
                                 obtain ⟨ua574_0, uc574_0, rfl, ul574_0, ge574_0⟩ := Kd.FK_slice_open hMe574
                                 have hv574_0 := hcc574 0 _ rfl
                                 rw [Nat.add_zero, show ((Kd.slice 3 (Kd.int .i64))).sz = 1 from rfl, Nat.mul_one] at hv574_0
                                 replace hv574_0 := Option.some.inj (hv574_0.symm.trans hx574_0)
                                 injection hv574_0 with hva_ hvn_ hvc_
                                 rw [hva_] at ge574_0
                                 rw [hvc_] at ul574_0
                                 have HL574_0 := Aside0.mk (show Kd.V (Kd.int .i64) 3 _ w.heap.size _ _ (rd_L3 t545 x13_3) from Kd.V_mk ul574_0 ge574_0)
                                 clear hva_ hvn_ hvc_ ge574_0 ul574_0
                                 clear hcc574 hce574
                                 have HR574_0 := Aside0.mk hi574_0
                                 have HC574_0 := Aside0.mk hl574_0
                                 clear hi574_0 hl574_0
                                 replace p574 := eq_true p574
                                 replace q574 := eq_true q574
                                 have ea_ := Option.some.inj (hx557_0.symm.trans hx574_0)
                                 injection ea_ with ea_ en_ ec_
                                 subst ea_
                                 subst ec_
                                 clear en_
                                 have p575 : 0 ≤ ((ji40) : Int) := of_decide_eq_true aK
                                 have q575 : (ji40) < ((rd_L3 t545 x13_3).length : Int) := of_decide_eq_true aK
                                 obtain ⟨ad575, e575, hx575_0⟩ := Kd.at_int (by repeat (first | (with_reducible exact HR574_0.out) | (with_reducible refine Kd.C_alloc ?_ _) | (with_reducible refine Kd.C_drewN ?_ _) | (with_reducible refine Kd.C_drew ?_) | exact HR574_0.out)) (ji40) p575 q575
                                 cases e575
                                 replace p575 := eq_true p575
                                 replace q575 := eq_true q575
                                 go_wp2
                                 go_big_quiet ((go_at_call 20; (with_reducible refine (quaerelaw0_SameInts.calls kj33 _ _ y558 _ _ y564 true _ ?side1 ?side2 ?side3 ?side4 A48.out).mono ?_); (case side1 => exact cK ((Kd.V_reads' HO562.out).2.2)); (case side2 => exact (Kd.V_reads' HO562.out).2.1); (case side3 => exact cK ((Kd.V_reads' HO568.out).2.2)); (case side4 => exact (Kd.V_reads' HO568.out).2.1); rintro e w' ⟨rfl, ⟨nd, rfl⟩⟩; (first | exact ⟨rfl, _, World.drewN_drewN _ _ _⟩ | exact ⟨rfl, _, Eq.trans (World.drewN_drewN _ _ _) (congrArg (World.drewN _) (Nat.add_assoc _ _ _))⟩)))
                                 go_wp2
                                 go_roundg kj33
                                 case measure => have := HJ6.out; have := HJ20.out; have := HK3.out; have := HK4.out; have := HJ33.out; omega
                                 case rel => exact ⟨(wrap64 (x14_4 + 1)), sK, H', ⟨by have := HJ6.out; have := HJ20.out; have := HK3.out; have := HK4.out; have := HJ33.out; omega⟩, ⟨by (with_reducible repeat (first | apply Kd.N_alloc | apply Kd.N_drewN | apply Kd.N_drew)); exact HO_9.out⟩, ⟨by (with_reducible repeat (first | apply Kd.N_alloc | apply Kd.N_drewN | apply Kd.N_drew)); exact HO_11.out⟩, ⟨bB⟩⟩
                              ·rw [if_neg c51] at H
                               exact absurd H (by simp)
                             ·rw [if_neg c50] at H
                              exact absurd H (by simp)
                            ·replace c49 := Bool.eq_false_iff.mpr c49
                             subst c49
                             have H1 : (quaerelaw12_PathApart.l1 kj33 t545 t549 x13_3 (wrap64 (x14_4 + 1))) = some r := by rw [if_neg (show ¬ (false = true) by decide)] at H; exact H
                             clear H
                             have H := H1
                             clear H1
                             have H' := Aside0.mk H
                             clear H
                             have p557 : 0 ≤ (x13_3 : Int) := of_decide_eq_true aK
                             have q557 : x13_3 < (t545.length : Int) := of_decide_eq_true aK
                             obtain ⟨ad557, A557_0, c557_0, e557, hx557_0, hl557_0, hi557_0⟩ := at_L3 (Kd.N_reads' HO_9.out).2.2 x13_3 p557 q557
                             obtain rfl : ad555 = ad557 := (by injection e557)
                             obtain ⟨ce557, hce557, hMe557, hcc557⟩ := Kd.N_get HO_9.out [] x13_3 p557 (by first | exact q557 | exact of_decide_eq_true aK | (have e_ := (Kd.N_reads' HO_9.out).1; omega))
                             obtain ⟨ua557_0, uc557_0, rfl, ul557_0, ge557_0⟩ := Kd.FK_slice_open hMe557
                             have hv557_0 := hcc557 0 _ rfl
                             rw [Nat.add_zero, show ((Kd.slice 3 (Kd.int .i64))).sz = 1 from rfl, Nat.mul_one] at hv557_0
                             replace hv557_0 := Option.some.inj (hv557_0.symm.trans hx557_0)
                             injection hv557_0 with hva_ hvn_ hvc_
                             rw [hva_] at ge557_0
                             rw [hvc_] at ul557_0
                             have HL557_0 := Aside0.mk (show Kd.V (Kd.int .i64) 3 _ w.heap.size _ _ (rd_L3 t545 x13_3) from Kd.V_mk ul557_0 ge557_0)
                             clear hva_ hvn_ hvc_ ge557_0 ul557_0 hcc557 hce557
                             have HR557_0 := Aside0.mk hi557_0
                             have HC557_0 := Aside0.mk hl557_0
                             clear hi557_0 hl557_0
                             replace p557 := eq_true p557
                             replace q557 := eq_true q557
                             have q63 : ((ji40) : Int) ≤ (((rd_L3 t545 x13_3).length : Int) : Int) := of_decide_eq_true aK
                             obtain ⟨i063, hi063, _, hsz63, _⟩ := info_parts info3
                             have hroom63 : (rd_L3 t545 x13_3).length ≤ c557_0 := HC557_0.out
                             have hC63 : Kd.F (Kd.int .i64) _ _ A557_0 (rd_L3 t545 x13_3).length (rd_L3 t545 x13_3) := (Kd.V_at (base := w.heap.size) HL557_0.out).2.2
                             have hcut63 := cut_to (P := Tryd.prog) 23 3 .i64 Tryd.underlying23 hi063 A557_0 (rd_L3 t545 x13_3).length c557_0 (ji40) (of_decide_eq_true aK) q63 hroom63
                             have hr63 := Kd.F_take (m := ((ji40) : Int).toNat) hC63 (by omega)
                             have hy63 : y558.length = ((ji40) : Int).toNat := (by rw [Ny558.out, List.length_take]; omega)
                             rw [← Ny558.out] at hr63
                             rw [← hy63] at hcut63
                             have HO562 := Aside0.mk (show Kd.V (Kd.int .i64) 3 _ w.heap.size _ (.slice A557_0 y558.length c557_0) y558 from Kd.V_mk (by omega) hr63)
                             have HC562 := Aside0.mk (show y558.length ≤ c557_0 from by omega)
                             clear hr63 hC63 hroom63 hi063 hsz63
                             have KY63 := Aside0.mk hy63
                             clear hy63
                             replace q63 := eq_true q63
                             have p563 : 0 ≤ (x14_4 : Int) := of_decide_eq_true aK
                             have q563 : x14_4 < (t549.length : Int) := of_decide_eq_true aK
                             obtain ⟨ad563, A563_0, c563_0, e563, hx563_0, hl563_0, hi563_0⟩ := at_L3 (Kd.N_reads' HO_11.out).2.2 x14_4 p563 q563
                             obtain rfl : ad556 = ad563 := (by injection e563)
                             obtain ⟨ce563, hce563, hMe563, hcc563⟩ := Kd.N_get HO_11.out [] x14_4 p563 (by first | exact q563 | exact of_decide_eq_true aK | (have e_ := (Kd.N_reads' HO_11.out).1; omega))
                             obtain ⟨ua563_0, uc563_0, rfl, ul563_0, ge563_0⟩ := Kd.FK_slice_open hMe563
                             have hv563_0 := hcc563 0 _ rfl
                             rw [Nat.add_zero, show ((Kd.slice 3 (Kd.int .i64))).sz = 1 from rfl, Nat.mul_one] at hv563_0
                             replace hv563_0 := Option.some.inj (hv563_0.symm.trans hx563_0)
                             injection hv563_0 with hva_ hvn_ hvc_
                             rw [hva_] at ge563_0
                             rw [hvc_] at ul563_0
                             have HL563_0 := Aside0.mk (show Kd.V (Kd.int .i64) 3 _ w.heap.size _ _ (rd_L3 t549 x14_4) from Kd.V_mk ul563_0 ge563_0)
                             clear hva_ hvn_ hvc_ ge563_0 ul563_0 hcc563 hce563
                             have HR563_0 := Aside0.mk hi563_0
                             have HC563_0 := Aside0.mk hl563_0
                             clear hi563_0 hl563_0
                             replace p563 := eq_true p563
                             replace q563 := eq_true q563
                             have q64 : ((ji45) : Int) ≤ (((rd_L3 t549 x14_4).length : Int) : Int) := of_decide_eq_true aK
                             obtain ⟨i064, hi064, _, hsz64, _⟩ := info_parts info3
                             have hroom64 : (rd_L3 t549 x14_4).length ≤ c563_0 := HC563_0.out
                             have hC64 : Kd.F (Kd.int .i64) _ _ A563_0 (rd_L3 t549 x14_4).length (rd_L3 t549 x14_4) := (Kd.V_at (base := w.heap.size) HL563_0.out).2.2
                             have hcut64 := cut_to (P := Tryd.prog) 23 3 .i64 Tryd.underlying23 hi064 A563_0 (rd_L3 t549 x14_4).length c563_0 (ji45) (of_decide_eq_true aK) q64 hroom64
                             have hr64 := Kd.F_take (m := ((ji45) : Int).toNat) hC64 (by omega)
                             have hy64 : y564.length = ((ji45) : Int).toNat := (by rw [Ny564.out, List.length_take]; omega)
                             rw [← Ny564.out] at hr64
                             rw [← hy64] at hcut64
                             have HO568 := Aside0.mk (show Kd.V (Kd.int .i64) 3 _ w.heap.size _ (.slice A563_0 y564.length c563_0) y564 from Kd.V_mk (by omega) hr64)
                             have HC568 := Aside0.mk (show y564.length ≤ c563_0 from by omega)
                             clear hr64 hC64 hroom64 hi064 hsz64
                             have KY64 := Aside0.mk hy64
                             clear hy64
                             replace q64 := eq_true q64
                             go_wp2
                             go_big_quiet ((go_at_call 20; (with_reducible refine (quaerelaw0_SameInts.calls kj33 _ _ y558 _ _ y564 false _ ?side1 ?side2 ?side3 ?side4 A48.out).mono ?_); (case side1 => exact cK ((Kd.V_reads' HO562.out).2.2)); (case side2 => exact (Kd.V_reads' HO562.out).2.1); (case side3 => exact cK ((Kd.V_reads' HO568.out).2.2)); (case side4 => exact (Kd.V_reads' HO568.out).2.1); rintro e w' ⟨rfl, ⟨nd, rfl⟩⟩; (first | exact ⟨rfl, _, World.drewN_drewN _ _ _⟩ | exact ⟨rfl, _, Eq.trans (World.drewN_drewN _ _ _) (congrArg (World.drewN _) (Nat.add_assoc _ _ _))⟩)))
                             go_wp2
                             go_roundg kj33
                             case measure => have := HJ6.out; have := HJ20.out; have := HK3.out; have := HK4.out; have := HJ33.out; omega
                             case rel => exact ⟨(wrap64 (x14_4 + 1)), sK, H', ⟨by have := HJ6.out; have := HJ20.out; have := HK3.out; have := HK4.out; have := HJ33.out; omega⟩, ⟨by (with_reducible repeat (first | apply Kd.N_alloc | apply Kd.N_drewN | apply Kd.N_drew)); exact HO_9.out⟩, ⟨by (with_reducible repeat (first | apply Kd.N_alloc | apply Kd.N_drewN | apply Kd.N_drew)); exact HO_11.out⟩, ⟨bB⟩⟩
                           ·rw [if_neg c47] at H
                            exact absurd H (by simp)
                          ·rw [if_neg c46] at H
                           exact absurd H (by simp)
                         ·rw [if_neg c44] at H
                          exact absurd H (by simp)
                        ·rw [if_neg c43] at H
                         exact absurd H (by simp)
                       ·rw [if_neg c42] at H
                        exact absurd H (by simp)
                      ·rw [if_neg c41] at H
                       exact absurd H (by simp)
                     ·rw [if_neg c39] at H
                      exact absurd H (by simp)
                    ·rw [if_neg c38] at H
                     exact absurd H (by simp)
                ·rw [if_neg c33] at H
                 exact absurd H (by simp)
               ·rw [if_neg c32] at H
                exact absurd H (by simp)
              ·rw [if_neg c31] at H
               exact absurd H (by simp)
             ·rw [if_neg c30] at H
              have c30b0 : decide (x14_4 < (t549.length : Int)) = false := decide_eq_false c30
              clear c30
              have H' := Aside0.mk H
              clear H
              obtain ⟨Ao65, co65, eo65⟩ := Kd.N_slice HO_11.out
              subst eo65
              go_wp2
              repeat (go_quiet (fail); try go_wp2)
              go_roundg k4
              case measure => have := HJ6.out; have := HJ20.out; have := HK3.out; have := HK4.out; omega
              case rel => exact ⟨(wrap64 (x13_3 + 1)), sK, H', ⟨by have := HJ6.out; have := HJ20.out; have := HK3.out; have := HK4.out; omega⟩, ⟨by (with_reducible repeat (first | apply Kd.N_alloc | apply Kd.N_drewN | apply Kd.N_drew)); exact HO_9.out⟩, ⟨by (with_reducible repeat (first | apply Kd.N_alloc | apply Kd.N_drewN | apply Kd.N_drew)); exact HO_11.out⟩, ⟨bB⟩⟩
          ·rw [if_neg c28] at H
           have c28b0 : decide (x13_3 < (t545.length : Int)) = false := decide_eq_false c28
           clear c28
           obtain rfl := Option.some.inj H
           obtain ⟨Ao66, co66, eo66⟩ := Kd.N_slice HO_9.out
           subst eo66
           go_wp2
           repeat (go_quiet (fail); try go_wp2)
           go_ret
           exact ⟨eK, bB⟩
 ·replace c5 := Bool.eq_false_iff.mpr c5
  subst c5
  have H1 : (some false) = some r := by rw [if_neg (show ¬ (false = true) by decide)] at H; exact H
  clear H
  have H := H1
  clear H1
  obtain rfl := Option.some.inj H
  go_enter Tryd.func7, Tryd.ntmps7
  go_wp2_with (first | (go_at_call 16; (with_reducible refine (quaerelaw12_awake.calls (hG := gK) k  false _ A4.out).mono ?_); rintro e w67 ⟨rfl, hb⟩; have n0_ := Aside0.mk (Kd.V_below (by (with_reducible repeat (first | apply Kd.V_alloc | apply Kd.V_drewN | apply Kd.V_drew)); exact HO1.out) hb); have n1_ := Aside0.mk (below_step bB hb); clear HO1; clear HB; have HO1 := n0_; have HB := n1_; clear n0_ n1_; (try clear hb); (try clear hb2); (try clear hk); (try clear hi)))
  repeat (go_quiet (first | (go_at_call 16; (with_reducible refine (quaerelaw12_awake.calls (hG := gK) k  false _ A4.out).mono ?_); rintro e w67 ⟨rfl, hb⟩; have n0_ := Aside0.mk (Kd.V_below (by (with_reducible repeat (first | apply Kd.V_alloc | apply Kd.V_drewN | apply Kd.V_drew)); exact HO1.out) hb); have n1_ := Aside0.mk (below_step bB hb); clear HO1; clear HB; have HO1 := n0_; have HB := n1_; clear n0_ n1_; (try clear hb); (try clear hb2); (try clear hk); (try clear hi))); try go_wp2_with (first | (go_at_call 16; (with_reducible refine (quaerelaw12_awake.calls (hG := gK) k  false _ A4.out).mono ?_); rintro e w67 ⟨rfl, hb⟩; have n0_ := Aside0.mk (Kd.V_below (by (with_reducible repeat (first | apply Kd.V_alloc | apply Kd.V_drewN | apply Kd.V_drew)); exact HO1.out) hb); have n1_ := Aside0.mk (below_step bB hb); clear HO1; clear HB; have HO1 := n0_; have HB := n1_; clear n0_ n1_; (try clear hb); (try clear hb2); (try clear hk); (try clear hi))))
  go_ret
  exact ⟨eK, bB⟩

end Go.Proofs.YteffiodbflmfkaaDoor.PP
