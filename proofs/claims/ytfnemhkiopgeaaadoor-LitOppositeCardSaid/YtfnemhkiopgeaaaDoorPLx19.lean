-- written by a program of this session's (wip/tools/pp.py), after the kit's print
import Derived.Test.YtfnemhkiopgeaaaDoorPLx0
import Derived.Test.YtfnemhkiopgeaaaDoorPLx4
import Derived.Test.YtfnemhkiopgeaaaDoorPLx14
import Derived.Test.YtfnemhkiopgeaaaDoorPLx16
namespace Go.Proofs.YtfnemhkiopgeaaaDoor.PL
open Go.RowKit Go.Proofs.YtfnemhkiopgeaaaDoorW.PrintWords Go.Proofs.YtfnemhkiopgeaaaDoorW.PrintLast Go.Proofs.YtfnemhkiopgeaaaDoorW.PrintMore
attribute [local go_sem] jump_ret max2_int min2_int max_two min_two max_three min_three max_four min_four   -- for this text's walks alone
set_option linter.unusedVariables false
set_option linter.unusedSimpArgs false

/-! ### quaerelaw7_LitOpposite: function 5 -/
def quaerelaw7_LitOpposite.j0 : Nat → Int → Int → Int → Int → Int → Int → Int → Int → Int → Option (Bool)
 | 0, _, _, _, _, _, _, _, _, _ => none
 | k + 1, x6, x7, x8, x9, x10, x11, x12, x13, x14 => (quaerelaw0_Num.f x7).bind fun t362 => (if t362 = 0 then ((quaerelaw0_Num.f x9).bind fun t363 => (if t363 = 0 then ((quaerelaw0_Num.f x11).bind fun t364 => (if t364 = 0 then ((quaerelaw0_Num.f x13).bind fun t365 => (if t365 = 0 then (if x6 = x14 then (if x8 = (wrap64 (2 - x14)) then (some (x10 == x12)) else (some false)) else (some false)) else (some false))) else (some false))) else (some false))) else (some false))
def quaerelaw7_LitOpposite.f (k : Nat) (l0 : List (S58)) (a1_0 : Bool) (l1_1 : List Int) : Option (Bool) := (quaerelaw7_awake.f k).bind fun t350 => (if t350 = true then ((lit_May.f k l0 a1_0 l1_1).bind fun t352 => (if t352 = true then ((lit_Compare.f k l0 a1_0 l1_1 (!a1_0) l1_1).bind fun bt354 => ((lit_Compare.f k l0 (!a1_0) l1_1 a1_0 l1_1).bind fun bt356 => ((lit_Weight.f k l0 a1_0 l1_1).bind fun bt358 => ((lit_Weight.f k l0 (!a1_0) l1_1).bind fun bt360 => (if a1_0 = true then (quaerelaw7_LitOpposite.j0 k bt354.1 bt354.2 bt356.1 bt356.2 bt358.1 bt358.2 bt360.1 bt360.2 2) else (quaerelaw7_LitOpposite.j0 k bt354.1 bt354.2 bt356.1 bt356.2 bt358.1 bt358.2 bt360.1 bt360.2 0)))))) else ((lit_May.f k l0 (!a1_0) l1_1).bind fun t353 => (some (!t353))))) else (some false))
theorem quaerelaw7_LitOpposite.mono_l : ∀ k, (∀ y0 y1 y2 y3 y4 y5 y6 y7 y8, LeO (quaerelaw7_LitOpposite.j0 k y0 y1 y2 y3 y4 y5 y6 y7 y8) (quaerelaw7_LitOpposite.j0 (k + 1) y0 y1 y2 y3 y4 y5 y6 y7 y8))
 | 0 => fun _ _ _ _ _ _ _ _ _ r h => by simp [quaerelaw7_LitOpposite.j0] at h
 | k + 1 => by
  have ih0 := quaerelaw7_LitOpposite.mono_l k
  ·intro y0 y1 y2 y3 y4 y5 y6 y7 y8
   unfold quaerelaw7_LitOpposite.j0
   repeat' first
   | (with_reducible exact ih0 _ _ _ _ _ _ _ _ _)
   | (with_reducible exact lit_Compare.mono _ _ _ _ _ _)
   | (with_reducible exact lit_May.mono _ _ _ _)
   | (with_reducible exact lit_Weight.mono _ _ _ _)
   | (with_reducible exact quaerelaw7_awake.mono _)
   | (with_reducible exact LeO.refl _)
   | (with_reducible exact LeO.none _)
   | (with_reducible refine LeO.ite ?_ ?_)
   | (with_reducible refine LeO.bind ?_ (fun _ => ?_))
   | exact ih0 _ _ _ _ _ _ _ _ _
   | exact lit_Compare.mono _ _ _ _ _ _
   | exact lit_May.mono _ _ _ _
   | exact lit_Weight.mono _ _ _ _
   | exact quaerelaw7_awake.mono _
   | exact LeO.none _
   | refine LeO.ite ?_ ?_
   | refine LeO.bind ?_ (fun _ => ?_)
theorem quaerelaw7_LitOpposite.mono : ∀ a0 a1 a2 k, LeO (quaerelaw7_LitOpposite.f k a0 a1 a2) (quaerelaw7_LitOpposite.f (k + 1) a0 a1 a2) := by
 intro a0 a1 a2 k
 have ih0 := quaerelaw7_LitOpposite.mono_l k
 unfold quaerelaw7_LitOpposite.f
 repeat' first
   | (with_reducible exact ih0 _ _ _ _ _ _ _ _ _)
   | (with_reducible exact lit_Compare.mono _ _ _ _ _ _)
   | (with_reducible exact lit_May.mono _ _ _ _)
   | (with_reducible exact lit_Weight.mono _ _ _ _)
   | (with_reducible exact quaerelaw7_awake.mono _)
   | (with_reducible exact LeO.refl _)
   | (with_reducible exact LeO.none _)
   | (with_reducible refine LeO.ite ?_ ?_)
   | (with_reducible refine LeO.bind ?_ (fun _ => ?_))
   | exact ih0 _ _ _ _ _ _ _ _ _
   | exact lit_Compare.mono _ _ _ _ _ _
   | exact lit_May.mono _ _ _ _
   | exact lit_Weight.mono _ _ _ _
   | exact quaerelaw7_awake.mono _
   | exact LeO.none _
   | refine LeO.ite ?_ ?_
   | refine LeO.bind ?_ (fun _ => ?_)
set_option maxHeartbeats 8000000 in
set_option maxRecDepth 100000 in
theorem quaerelaw7_LitOpposite.calls (k : Nat) (A0 : Option Addr) (c0 : Nat) (l0 : List (S58)) (a1_0 : Bool) (A1_1 : Option Addr) (c1_1 : Nat) (l1_1 : List Int) (r : Bool) (w : World) (hr0 : Kd.C k58 w A0 l0.length l0) (hc0 : l0.length ≤ c0) (hr1_1 : Kd.C (Kd.int .i64) w A1_1 l1_1.length l1_1) (hc1_1 : l1_1.length ≤ c1_1) (h : quaerelaw7_LitOpposite.f k l0 a1_0 l1_1 = some r) (hG : Glob w) :
  Calls Tryd.prog 5 #[.slice A0 l0.length c0, .agg #[.bool a1_0, .slice A1_1 l1_1.length c1_1]] w fun e w' => e = .returned (.bool r) ∧ Below w.heap.size w w' := by
 have hu25 := Tryd.underlying25
 have HR0 := Aside0.mk hr0
 have HC0 := Aside0.mk hc0
 clear hr0 hc0
 have HR1_1 := Aside0.mk hr1_1
 have HC1_1 := Aside0.mk hc1_1
 clear hr1_1 hc1_1
 have HB := Aside0.mk (Below.refl w.heap.size w)
 have H : ((quaerelaw7_awake.f k).bind fun t350 => (if t350 = true then ((lit_May.f k l0 a1_0 l1_1).bind fun t352 => (if t352 = true then ((lit_Compare.f k l0 a1_0 l1_1 (!a1_0) l1_1).bind fun bt354 => ((lit_Compare.f k l0 (!a1_0) l1_1 a1_0 l1_1).bind fun bt356 => ((lit_Weight.f k l0 a1_0 l1_1).bind fun bt358 => ((lit_Weight.f k l0 (!a1_0) l1_1).bind fun bt360 => (if a1_0 = true then (quaerelaw7_LitOpposite.j0 k bt354.1 bt354.2 bt356.1 bt356.2 bt358.1 bt358.2 bt360.1 bt360.2 2) else (quaerelaw7_LitOpposite.j0 k bt354.1 bt354.2 bt356.1 bt356.2 bt358.1 bt358.2 bt360.1 bt360.2 0)))))) else ((lit_May.f k l0 (!a1_0) l1_1).bind fun t353 => (some (!t353))))) else (some false))) = some r := h
 clear h
 replace H := Option.bind_eq_some_iff.mp H
 obtain ⟨t350, A30, H⟩ := H
 replace H : (if t350 = true then ((lit_May.f k l0 a1_0 l1_1).bind fun t352 => (if t352 = true then ((lit_Compare.f k l0 a1_0 l1_1 (!a1_0) l1_1).bind fun bt354 => ((lit_Compare.f k l0 (!a1_0) l1_1 a1_0 l1_1).bind fun bt356 => ((lit_Weight.f k l0 a1_0 l1_1).bind fun bt358 => ((lit_Weight.f k l0 (!a1_0) l1_1).bind fun bt360 => (if a1_0 = true then (quaerelaw7_LitOpposite.j0 k bt354.1 bt354.2 bt356.1 bt356.2 bt358.1 bt358.2 bt360.1 bt360.2 2) else (quaerelaw7_LitOpposite.j0 k bt354.1 bt354.2 bt356.1 bt356.2 bt358.1 bt358.2 bt360.1 bt360.2 0)))))) else ((lit_May.f k l0 (!a1_0) l1_1).bind fun t353 => (some (!t353))))) else (some false)) = some r := H
 have A3 := Aside0.mk A30
 clear A30
 by_cases c4 : t350 = true
 ·subst c4
  have H1 : ((lit_May.f k l0 a1_0 l1_1).bind fun t352 => (if t352 = true then ((lit_Compare.f k l0 a1_0 l1_1 (!a1_0) l1_1).bind fun bt354 => ((lit_Compare.f k l0 (!a1_0) l1_1 a1_0 l1_1).bind fun bt356 => ((lit_Weight.f k l0 a1_0 l1_1).bind fun bt358 => ((lit_Weight.f k l0 (!a1_0) l1_1).bind fun bt360 => (if a1_0 = true then (quaerelaw7_LitOpposite.j0 k bt354.1 bt354.2 bt356.1 bt356.2 bt358.1 bt358.2 bt360.1 bt360.2 2) else (quaerelaw7_LitOpposite.j0 k bt354.1 bt354.2 bt356.1 bt356.2 bt358.1 bt358.2 bt360.1 bt360.2 0)))))) else ((lit_May.f k l0 (!a1_0) l1_1).bind fun t353 => (some (!t353))))) = some r := by rw [if_pos rfl] at H; exact H
  clear H
  have H := H1
  clear H1
  replace H := Option.bind_eq_some_iff.mp H
  obtain ⟨t352, A50, H⟩ := H
  replace H : (if t352 = true then ((lit_Compare.f k l0 a1_0 l1_1 (!a1_0) l1_1).bind fun bt354 => ((lit_Compare.f k l0 (!a1_0) l1_1 a1_0 l1_1).bind fun bt356 => ((lit_Weight.f k l0 a1_0 l1_1).bind fun bt358 => ((lit_Weight.f k l0 (!a1_0) l1_1).bind fun bt360 => (if a1_0 = true then (quaerelaw7_LitOpposite.j0 k bt354.1 bt354.2 bt356.1 bt356.2 bt358.1 bt358.2 bt360.1 bt360.2 2) else (quaerelaw7_LitOpposite.j0 k bt354.1 bt354.2 bt356.1 bt356.2 bt358.1 bt358.2 bt360.1 bt360.2 0)))))) else ((lit_May.f k l0 (!a1_0) l1_1).bind fun t353 => (some (!t353)))) = some r := H
  have A5 := Aside0.mk A50
  clear A50
  by_cases c6 : t352 = true
  ·subst c6
   have H1 : ((lit_Compare.f k l0 a1_0 l1_1 (!a1_0) l1_1).bind fun bt354 => ((lit_Compare.f k l0 (!a1_0) l1_1 a1_0 l1_1).bind fun bt356 => ((lit_Weight.f k l0 a1_0 l1_1).bind fun bt358 => ((lit_Weight.f k l0 (!a1_0) l1_1).bind fun bt360 => (if a1_0 = true then (quaerelaw7_LitOpposite.j0 k bt354.1 bt354.2 bt356.1 bt356.2 bt358.1 bt358.2 bt360.1 bt360.2 2) else (quaerelaw7_LitOpposite.j0 k bt354.1 bt354.2 bt356.1 bt356.2 bt358.1 bt358.2 bt360.1 bt360.2 0)))))) = some r := by rw [if_pos rfl] at H; exact H
   clear H
   have H := H1
   clear H1
   replace H := Option.bind_eq_some_iff.mp H
   obtain ⟨⟨t354, t355⟩, A70, H⟩ := H
   replace H : ((lit_Compare.f k l0 (!a1_0) l1_1 a1_0 l1_1).bind fun bt356 => ((lit_Weight.f k l0 a1_0 l1_1).bind fun bt358 => ((lit_Weight.f k l0 (!a1_0) l1_1).bind fun bt360 => (if a1_0 = true then (quaerelaw7_LitOpposite.j0 k t354 t355 bt356.1 bt356.2 bt358.1 bt358.2 bt360.1 bt360.2 2) else (quaerelaw7_LitOpposite.j0 k t354 t355 bt356.1 bt356.2 bt358.1 bt358.2 bt360.1 bt360.2 0))))) = some r := H
   have A7 := Aside0.mk A70
   clear A70
   replace H := Option.bind_eq_some_iff.mp H
   obtain ⟨⟨t356, t357⟩, A80, H⟩ := H
   replace H : ((lit_Weight.f k l0 a1_0 l1_1).bind fun bt358 => ((lit_Weight.f k l0 (!a1_0) l1_1).bind fun bt360 => (if a1_0 = true then (quaerelaw7_LitOpposite.j0 k t354 t355 t356 t357 bt358.1 bt358.2 bt360.1 bt360.2 2) else (quaerelaw7_LitOpposite.j0 k t354 t355 t356 t357 bt358.1 bt358.2 bt360.1 bt360.2 0)))) = some r := H
   have A8 := Aside0.mk A80
   clear A80
   replace H := Option.bind_eq_some_iff.mp H
   obtain ⟨⟨t358, t359⟩, A90, H⟩ := H
   replace H : ((lit_Weight.f k l0 (!a1_0) l1_1).bind fun bt360 => (if a1_0 = true then (quaerelaw7_LitOpposite.j0 k t354 t355 t356 t357 t358 t359 bt360.1 bt360.2 2) else (quaerelaw7_LitOpposite.j0 k t354 t355 t356 t357 t358 t359 bt360.1 bt360.2 0))) = some r := H
   have A9 := Aside0.mk A90
   clear A90
   replace H := Option.bind_eq_some_iff.mp H
   obtain ⟨⟨t360, t361⟩, A100, H⟩ := H
   replace H : (if a1_0 = true then (quaerelaw7_LitOpposite.j0 k t354 t355 t356 t357 t358 t359 t360 t361 2) else (quaerelaw7_LitOpposite.j0 k t354 t355 t356 t357 t358 t359 t360 t361 0)) = some r := H
   have A10 := Aside0.mk A100
   clear A100
   have HC11 := Aside0.mk H
   clear H
   go_enter Tryd.func5, Tryd.ntmps5
   go_upto_if 58 with (first | ((with_reducible refine gate_dst (N := 3) rfl ?_); refine box_event ?hg (N := 3) ?hd (cs := #[.bool a1_0, .slice A1_1 l1_1.length c1_1]) (t := 25) ?hr ?_; (case hd => rfl); (case hg => rfl); (case hr => first | (go_simp; done) | (go_simp; rfl)); intro gb349 hg w12 hbox hb; have n0_ := Aside0.mk (below_step bB hb); have n1_ := Aside0.mk (hbox); have n2_ := Aside0.mk ((by rw [hg]; exact (below_size bB) : w.heap.size ≤ gb349)); have n3_ := Aside0.mk ((by rw [hg]; exact (below_size bB) : w.heap.size ≤ gb349)); clear HB; have HB := n0_; have BK349 := n1_; have GW349 := n2_; have GE349 := n3_; clear n0_ n1_ n2_ n3_; clear hb hbox hg) | ((with_reducible refine gate_callee (f := 18) rfl ?_); refine goesL_ (some 15) rfl rfl Tryd.func18 (by kernel_rfl) rfl #[] rfl mA ?_; (with_reducible refine (quaerelaw7_awake.calls (hG := gK) k  true _ A3.out).mono ?_); rintro e w13 ⟨rfl, hb⟩; refine ⟨_, rfl, ?_⟩; have n0_ := Aside0.mk (blk_below (g := gb349) (o := .cells #[.bool a1_0, .slice A1_1 l1_1.length c1_1] 25 (0, 0)) (bK BK349) hb); have n1_ := Aside0.mk (below_step bS hb); clear BK349; clear HB; have BK349 := n0_; have HB := n1_; clear n0_ n1_; (try clear hb); (try clear hb2); (try clear hk); (try clear hi); have hcz14_0 : w13.cell? ⟨gb349, 0, none⟩ = some (.bool a1_0) := (blk_cell BK349.out 0).trans rfl; have hcz14_1 : w13.cell? ⟨gb349, 1, none⟩ = some (.slice A1_1 l1_1.length c1_1) := (blk_cell BK349.out 1).trans rfl; have hfz14_0 := blk_frozen BK349.out 0; have hfz14_1 := blk_frozen BK349.out 1) | ((with_reducible refine gate_dst (N := 5) rfl ?_); refine box_event ?hg (N := 5) ?hd (cs := #[.bool false, .slice none 0 0]) (t := 25) ?hr ?_; (case hd => rfl); (case hg => rfl); (case hr => first | (go_simp; done) | (go_simp; rfl)); intro gb351 hg w15 hbox hb; have n0_ := Aside0.mk (blk_below (g := gb349) (o := .cells #[.bool a1_0, .slice A1_1 l1_1.length c1_1] 25 (0, 0)) (bK BK349) hb); have n1_ := Aside0.mk (below_step bS hb); have n2_ := Aside0.mk (hbox); have n3_ := Aside0.mk ((by rw [hg]; exact (below_size bS) : w.heap.size ≤ gb351)); have n4_ := Aside0.mk ((by rw [hg]; exact (below_size bS) : w.heap.size ≤ gb351)); have n5_ := Aside0.mk ((by rw [hg]; exact Nat.ne_of_lt (blk_lt (g := gb349) (o := .cells #[.bool a1_0, .slice A1_1 l1_1.length c1_1] 25 (0, 0)) (bK BK349)) : gb349 ≠ gb351)); have n6_ := Aside0.mk ((by rw [hg]; exact Nat.ne_of_gt (blk_lt (g := gb349) (o := .cells #[.bool a1_0, .slice A1_1 l1_1.length c1_1] 25 (0, 0)) (bK BK349)) : gb351 ≠ gb349)); clear BK349; clear HB; have BK349 := n0_; have HB := n1_; have BK351 := n2_; have GW351 := n3_; have GE351 := n4_; have NB349_351 := n5_; have NB351_349 := n6_; clear n0_ n1_ n2_ n3_ n4_ n5_ n6_; clear hb hbox hg; have hnb16 := NB351_349.out; have hnc16 := NB349_351.out; have hcz17_0 : w15.cell? ⟨gb351, 0, none⟩ = some (.bool false) := (blk_cell BK351.out 0).trans rfl; have hcz17_1 : w15.cell? ⟨gb351, 1, none⟩ = some (.slice none 0 0) := (blk_cell BK351.out 1).trans rfl; have hfz17_0 := blk_frozen BK351.out 0; have hfz17_1 := blk_frozen BK351.out 1; have hcz18_0 : w15.cell? ⟨gb349, 0, none⟩ = some (.bool a1_0) := (blk_cell BK349.out 0).trans rfl; have hcz18_1 : w15.cell? ⟨gb349, 1, none⟩ = some (.slice A1_1 l1_1.length c1_1) := (blk_cell BK349.out 1).trans rfl; have hfz18_0 := blk_frozen BK349.out 0; have hfz18_1 := blk_frozen BK349.out 1) | ((with_reducible refine gate_callee (f := 14) rfl ?_); refine goesL_ (some 25) rfl rfl Tryd.func14 (by kernel_rfl) rfl #[.slice A0 l0.length c0, .agg #[.bool a1_0, .slice A1_1 l1_1.length c1_1]] rfl mA ?_; (with_reducible refine (lit_May.calls (hG := gK) k _ _ l0 a1_0 _ _ l1_1 true _ ?side1 ?side2 ?side3 ?side4 A5.out).mono ?_); (case side1 => exact Kd.C_below HR0.out bS); (case side2 => exact HC0.out); (case side3 => exact Kd.C_below HR1_1.out bS); (case side4 => exact HC1_1.out); rintro e w19 ⟨rfl, hb⟩; refine ⟨_, rfl, ?_⟩; have n0_ := Aside0.mk (blk_below (g := gb349) (o := .cells #[.bool a1_0, .slice A1_1 l1_1.length c1_1] 25 (0, 0)) (by (with_reducible repeat (first | refine blk_drewN ?_ _ | refine blk_drew ?_ | refine blk_alloc ?_ _)); refine blk_far ?_ NB349_351.out _; (with_reducible repeat (first | refine blk_drewN ?_ _ | refine blk_drew ?_ | refine blk_alloc ?_ _)); refine blk_far ?_ NB349_351.out _; (with_reducible repeat (first | refine blk_drewN ?_ _ | refine blk_drew ?_ | refine blk_alloc ?_ _)); exact BK349.out) hb); have n1_ := Aside0.mk (blk_below (g := gb351) (o := .cells #[.bool (!a1_0), .slice A1_1 l1_1.length c1_1] 25 (0, 0)) (by (with_reducible repeat (first | refine blk_drewN ?_ _ | refine blk_drew ?_ | refine blk_alloc ?_ _)); refine blk_put (cs := #[.bool (!a1_0), .slice none 0 0]) ?_ 1 _ rfl; (with_reducible repeat (first | refine blk_drewN ?_ _ | refine blk_drew ?_ | refine blk_alloc ?_ _)); refine blk_put (cs := #[.bool false, .slice none 0 0]) ?_ 0 _ rfl; (with_reducible repeat (first | refine blk_drewN ?_ _ | refine blk_drew ?_ | refine blk_alloc ?_ _)); exact BK351.out) hb); have n2_ := Aside0.mk (below_step bS hb); clear BK349; clear BK351; clear HB; have BK349 := n0_; have BK351 := n1_; have HB := n2_; clear n0_ n1_ n2_; (try clear hb); (try clear hb2); (try clear hk); (try clear hi); have hcz20_0 : w19.cell? ⟨gb349, 0, none⟩ = some (.bool a1_0) := (blk_cell BK349.out 0).trans rfl; have hcz20_1 : w19.cell? ⟨gb349, 1, none⟩ = some (.slice A1_1 l1_1.length c1_1) := (blk_cell BK349.out 1).trans rfl; have hfz20_0 := blk_frozen BK349.out 0; have hfz20_1 := blk_frozen BK349.out 1; have hcz21_0 : w19.cell? ⟨gb351, 0, none⟩ = some (.bool (!a1_0)) := (blk_cell BK351.out 0).trans rfl; have hcz21_1 : w19.cell? ⟨gb351, 1, none⟩ = some (.slice A1_1 l1_1.length c1_1) := (blk_cell BK351.out 1).trans rfl; have hfz21_0 := blk_frozen BK351.out 0; have hfz21_1 := blk_frozen BK351.out 1) | ((with_reducible refine gate_callee (f := 12) rfl ?_); refine goesL_ (some 35) rfl rfl Tryd.func12 (by kernel_rfl) rfl #[.slice A0 l0.length c0, .agg #[.bool a1_0, .slice A1_1 l1_1.length c1_1], .agg #[.bool (!a1_0), .slice A1_1 l1_1.length c1_1]] rfl mA ?_; (with_reducible refine (lit_Compare.calls (hG := gK) k _ _ l0 a1_0 _ _ l1_1 (!a1_0) _ _ l1_1 t354 t355 _ ?side1 ?side2 ?side3 ?side4 ?side5 ?side6 A7.out).mono ?_); (case side1 => exact cK (Kd.C_below HR0.out HB.out)); (case side2 => exact HC0.out); (case side3 => exact cK (Kd.C_below HR1_1.out HB.out)); (case side4 => exact HC1_1.out); (case side5 => exact cK (Kd.C_below HR1_1.out HB.out)); (case side6 => exact HC1_1.out); rintro e w22 ⟨rfl, hb⟩; refine ⟨_, rfl, ?_⟩; have n0_ := Aside0.mk (blk_below (g := gb349) (o := .cells #[.bool a1_0, .slice A1_1 l1_1.length c1_1] 25 (0, 0)) (bK BK349) hb); have n1_ := Aside0.mk (blk_below (g := gb351) (o := .cells #[.bool (!a1_0), .slice A1_1 l1_1.length c1_1] 25 (0, 0)) (bK BK351) hb); have n2_ := Aside0.mk (below_step bS hb); clear BK349; clear BK351; clear HB; have BK349 := n0_; have BK351 := n1_; have HB := n2_; clear n0_ n1_ n2_; (try clear hb); (try clear hb2); (try clear hk); (try clear hi); have hcz23_0 : w22.cell? ⟨gb351, 0, none⟩ = some (.bool (!a1_0)) := (blk_cell BK351.out 0).trans rfl; have hcz23_1 : w22.cell? ⟨gb351, 1, none⟩ = some (.slice A1_1 l1_1.length c1_1) := (blk_cell BK351.out 1).trans rfl; have hfz23_0 := blk_frozen BK351.out 0; have hfz23_1 := blk_frozen BK351.out 1; have hcz24_0 : w22.cell? ⟨gb349, 0, none⟩ = some (.bool a1_0) := (blk_cell BK349.out 0).trans rfl; have hcz24_1 : w22.cell? ⟨gb349, 1, none⟩ = some (.slice A1_1 l1_1.length c1_1) := (blk_cell BK349.out 1).trans rfl; have hfz24_0 := blk_frozen BK349.out 0; have hfz24_1 := blk_frozen BK349.out 1) | ((with_reducible refine gate_callee (f := 12) rfl ?_); refine goesL_ (some 42) rfl rfl Tryd.func12 (by kernel_rfl) rfl #[.slice A0 l0.length c0, .agg #[.bool (!a1_0), .slice A1_1 l1_1.length c1_1], .agg #[.bool a1_0, .slice A1_1 l1_1.length c1_1]] rfl mA ?_; (with_reducible refine (lit_Compare.calls (hG := gK) k _ _ l0 (!a1_0) _ _ l1_1 a1_0 _ _ l1_1 t356 t357 _ ?side1 ?side2 ?side3 ?side4 ?side5 ?side6 A8.out).mono ?_); (case side1 => exact cK (Kd.C_below HR0.out HB.out)); (case side2 => exact HC0.out); (case side3 => exact cK (Kd.C_below HR1_1.out HB.out)); (case side4 => exact HC1_1.out); (case side5 => exact cK (Kd.C_below HR1_1.out HB.out)); (case side6 => exact HC1_1.out); rintro e w25 ⟨rfl, hb⟩; refine ⟨_, rfl, ?_⟩; have n0_ := Aside0.mk (blk_below (g := gb349) (o := .cells #[.bool a1_0, .slice A1_1 l1_1.length c1_1] 25 (0, 0)) (bK BK349) hb); have n1_ := Aside0.mk (blk_below (g := gb351) (o := .cells #[.bool (!a1_0), .slice A1_1 l1_1.length c1_1] 25 (0, 0)) (bK BK351) hb); have n2_ := Aside0.mk (below_step bS hb); clear BK349; clear BK351; clear HB; have BK349 := n0_; have BK351 := n1_; have HB := n2_; clear n0_ n1_ n2_; (try clear hb); (try clear hb2); (try clear hk); (try clear hi); have hcz26_0 : w25.cell? ⟨gb349, 0, none⟩ = some (.bool a1_0) := (blk_cell BK349.out 0).trans rfl; have hcz26_1 : w25.cell? ⟨gb349, 1, none⟩ = some (.slice A1_1 l1_1.length c1_1) := (blk_cell BK349.out 1).trans rfl; have hfz26_0 := blk_frozen BK349.out 0; have hfz26_1 := blk_frozen BK349.out 1) | ((with_reducible refine gate_callee (f := 10) rfl ?_); refine goesL_ (some 48) rfl rfl Tryd.func10 (by kernel_rfl) rfl #[.slice A0 l0.length c0, .agg #[.bool a1_0, .slice A1_1 l1_1.length c1_1]] rfl mA ?_; (with_reducible refine (lit_Weight.calls (hG := gK) k _ _ l0 a1_0 _ _ l1_1 t358 t359 _ ?side1 ?side2 ?side3 ?side4 A9.out).mono ?_); (case side1 => exact cK (Kd.C_below HR0.out HB.out)); (case side2 => exact HC0.out); (case side3 => exact cK (Kd.C_below HR1_1.out HB.out)); (case side4 => exact HC1_1.out); rintro e w27 ⟨rfl, hb⟩; refine ⟨_, rfl, ?_⟩; have n0_ := Aside0.mk (blk_below (g := gb349) (o := .cells #[.bool a1_0, .slice A1_1 l1_1.length c1_1] 25 (0, 0)) (bK BK349) hb); have n1_ := Aside0.mk (blk_below (g := gb351) (o := .cells #[.bool (!a1_0), .slice A1_1 l1_1.length c1_1] 25 (0, 0)) (bK BK351) hb); have n2_ := Aside0.mk (below_step bS hb); clear BK349; clear BK351; clear HB; have BK349 := n0_; have BK351 := n1_; have HB := n2_; clear n0_ n1_ n2_; (try clear hb); (try clear hb2); (try clear hk); (try clear hi); have hcz28_0 : w27.cell? ⟨gb351, 0, none⟩ = some (.bool (!a1_0)) := (blk_cell BK351.out 0).trans rfl; have hcz28_1 : w27.cell? ⟨gb351, 1, none⟩ = some (.slice A1_1 l1_1.length c1_1) := (blk_cell BK351.out 1).trans rfl; have hfz28_0 := blk_frozen BK351.out 0; have hfz28_1 := blk_frozen BK351.out 1) | ((with_reducible refine gate_callee (f := 10) rfl ?_); refine goesL_ (some 54) rfl rfl Tryd.func10 (by kernel_rfl) rfl #[.slice A0 l0.length c0, .agg #[.bool (!a1_0), .slice A1_1 l1_1.length c1_1]] rfl mA ?_; (with_reducible refine (lit_Weight.calls (hG := gK) k _ _ l0 (!a1_0) _ _ l1_1 t360 t361 _ ?side1 ?side2 ?side3 ?side4 A10.out).mono ?_); (case side1 => exact cK (Kd.C_below HR0.out HB.out)); (case side2 => exact HC0.out); (case side3 => exact cK (Kd.C_below HR1_1.out HB.out)); (case side4 => exact HC1_1.out); rintro e w29 ⟨rfl, hb⟩; refine ⟨_, rfl, ?_⟩; have n0_ := Aside0.mk (blk_below (g := gb349) (o := .cells #[.bool a1_0, .slice A1_1 l1_1.length c1_1] 25 (0, 0)) (bK BK349) hb); have n1_ := Aside0.mk (blk_below (g := gb351) (o := .cells #[.bool (!a1_0), .slice A1_1 l1_1.length c1_1] 25 (0, 0)) (bK BK351) hb); have n2_ := Aside0.mk (below_step bS hb); clear BK349; clear BK351; clear HB; have BK349 := n0_; have BK351 := n1_; have HB := n2_; clear n0_ n1_ n2_; (try clear hb); (try clear hb2); (try clear hk); (try clear hi); have hcz30_0 : w29.cell? ⟨gb349, 0, none⟩ = some (.bool a1_0) := (blk_cell BK349.out 0).trans rfl; have hcz30_1 : w29.cell? ⟨gb349, 1, none⟩ = some (.slice A1_1 l1_1.length c1_1) := (blk_cell BK349.out 1).trans rfl; have hfz30_0 := blk_frozen BK349.out 0; have hfz30_1 := blk_frozen BK349.out 1))
   (try simp only [Act.put, List.setIfInBounds_toArray, List.set_cons_zero, List.set_cons_succ])
   go_cut [14] (fun v14 wc => ∃ (kq : Nat) (x14_10 : Int), v14 = .int .i64 x14_10 ∧ Aside0 (quaerelaw7_LitOpposite.j0 kq t354 t355 t356 t357 t358 t359 t360 t361 x14_10 = some r) ∧ Aside0 (kq ≤ k) ∧ Aside0 (wc.heap[gb349]? = some (.cells #[.bool a1_0, (.slice A1_1 l1_1.length c1_1)] 25 (0, 0))) ∧ Aside0 (wc.heap[gb351]? = some (.cells #[.bool (!a1_0), (.slice A1_1 l1_1.length c1_1)] 25 (0, 0))) ∧ Aside0 (Below w.heap.size w wc))
   case first =>
    have H := HC11.out
    clear HC11
    by_cases c31 : a1_0 = true
    ·subst c31
     have H1 : (quaerelaw7_LitOpposite.j0 k t354 t355 t356 t357 t358 t359 t360 t361 2) = some r := by rw [if_pos rfl] at H; exact H
     clear H
     have H := H1
     clear H1
     have H' := Aside0.mk H
     clear H
     go_wp2
     go_meet
     case rel => exact ⟨_, (2), sK, H', ⟨by first | omega | exact Nat.le_refl _⟩, ⟨by (with_reducible repeat (first | refine blk_drewN ?_ _ | refine blk_drew ?_ | refine blk_alloc ?_ _)); exact BK349.out⟩, ⟨by (with_reducible repeat (first | refine blk_drewN ?_ _ | refine blk_drew ?_ | refine blk_alloc ?_ _)); exact BK351.out⟩, ⟨bS⟩⟩
    ·replace c31 := Bool.eq_false_iff.mpr c31
     subst c31
     have H1 : (quaerelaw7_LitOpposite.j0 k t354 t355 t356 t357 t358 t359 t360 t361 0) = some r := by rw [if_neg (show ¬ (false = true) by decide)] at H; exact H
     clear H
     have H := H1
     clear H1
     have H' := Aside0.mk H
     clear H
     go_wp2
     go_meet
     case rel => exact ⟨_, (0), sK, H', ⟨by first | omega | exact Nat.le_refl _⟩, ⟨by (with_reducible repeat (first | refine blk_drewN ?_ _ | refine blk_drew ?_ | refine blk_alloc ?_ _)); exact BK349.out⟩, ⟨by (with_reducible repeat (first | refine blk_drewN ?_ _ | refine blk_drew ?_ | refine blk_alloc ?_ _)); exact BK351.out⟩, ⟨bS⟩⟩
   case rest =>
    clear HC11
    try clear c1
    try clear p2
    try clear c3
    try clear c4
    try clear c5
    try clear c6
    try clear c10
    try clear c12
    try clear c14
    try clear c16
    try clear c18
    try clear c31
    try clear hcz14_0
    try clear hcz14_1
    try clear hcz17_0
    try clear hcz17_1
    try clear hcz18_0
    try clear hcz18_1
    try clear hcz20_0
    try clear hcz20_1
    try clear hcz21_0
    try clear hcz21_1
    try clear hcz23_0
    try clear hcz23_1
    try clear hcz24_0
    try clear hcz24_1
    try clear hcz26_0
    try clear hcz26_1
    try clear hcz28_0
    try clear hcz28_1
    try clear hcz30_0
    try clear hcz30_1
    try clear hfz14_0
    try clear hfz14_1
    try clear hfz17_0
    try clear hfz17_1
    try clear hfz18_0
    try clear hfz18_1
    try clear hfz20_0
    try clear hfz20_1
    try clear hfz21_0
    try clear hfz21_1
    try clear hfz23_0
    try clear hfz23_1
    try clear hfz24_0
    try clear hfz24_1
    try clear hfz26_0
    try clear hfz26_1
    try clear hfz28_0
    try clear hfz28_1
    try clear hfz30_0
    try clear hfz30_1
    obtain ⟨kq, x14_10, rfl, HA, HJ10, BK349, BK351, HB⟩ := hcut
    cases kq with
    | zero => exact absurd HA.out (by simp [quaerelaw7_LitOpposite.j0])
    | succ kj10 =>
     have H := HA.out
     clear HA
     simp only [quaerelaw7_LitOpposite.j0] at H
     replace H := Option.bind_eq_some_iff.mp H
     obtain ⟨t362, A320, H⟩ := H
     replace H : (if t362 = 0 then ((quaerelaw0_Num.f t357).bind fun t363 => (if t363 = 0 then ((quaerelaw0_Num.f t359).bind fun t364 => (if t364 = 0 then ((quaerelaw0_Num.f t361).bind fun t365 => (if t365 = 0 then (if t354 = x14_10 then (if t356 = (wrap64 (2 - x14_10)) then (some (t358 == t360)) else (some false)) else (some false)) else (some false))) else (some false))) else (some false))) else (some false)) = some r := H
     have A32 := Aside0.mk A320
     clear A320
     by_cases c33 : t362 = 0
     ·rw [if_pos c33] at H
      have c33b0 : (t362 == 0) = true := beq_iff_eq.mpr c33
      have c33b1 : (t362 != 0) = false := bne_eq_false_iff_eq.mpr c33
      clear c33
      replace H := Option.bind_eq_some_iff.mp H
      obtain ⟨t363, A340, H⟩ := H
      replace H : (if t363 = 0 then ((quaerelaw0_Num.f t359).bind fun t364 => (if t364 = 0 then ((quaerelaw0_Num.f t361).bind fun t365 => (if t365 = 0 then (if t354 = x14_10 then (if t356 = (wrap64 (2 - x14_10)) then (some (t358 == t360)) else (some false)) else (some false)) else (some false))) else (some false))) else (some false)) = some r := H
      have A34 := Aside0.mk A340
      clear A340
      by_cases c35 : t363 = 0
      ·rw [if_pos c35] at H
       have c35b0 : (t363 == 0) = true := beq_iff_eq.mpr c35
       have c35b1 : (t363 != 0) = false := bne_eq_false_iff_eq.mpr c35
       clear c35
       replace H := Option.bind_eq_some_iff.mp H
       obtain ⟨t364, A360, H⟩ := H
       replace H : (if t364 = 0 then ((quaerelaw0_Num.f t361).bind fun t365 => (if t365 = 0 then (if t354 = x14_10 then (if t356 = (wrap64 (2 - x14_10)) then (some (t358 == t360)) else (some false)) else (some false)) else (some false))) else (some false)) = some r := H
       have A36 := Aside0.mk A360
       clear A360
       by_cases c37 : t364 = 0
       ·rw [if_pos c37] at H
        have c37b0 : (t364 == 0) = true := beq_iff_eq.mpr c37
        have c37b1 : (t364 != 0) = false := bne_eq_false_iff_eq.mpr c37
        clear c37
        replace H := Option.bind_eq_some_iff.mp H
        obtain ⟨t365, A380, H⟩ := H
        replace H : (if t365 = 0 then (if t354 = x14_10 then (if t356 = (wrap64 (2 - x14_10)) then (some (t358 == t360)) else (some false)) else (some false)) else (some false)) = some r := H
        have A38 := Aside0.mk A380
        clear A380
        by_cases c39 : t365 = 0
        ·rw [if_pos c39] at H
         have c39b0 : (t365 == 0) = true := beq_iff_eq.mpr c39
         have c39b1 : (t365 != 0) = false := bne_eq_false_iff_eq.mpr c39
         clear c39
         by_cases c40 : t354 = x14_10
         ·rw [if_pos c40] at H
          have c40b0 : (t354 == x14_10) = true := beq_iff_eq.mpr c40
          have c40b1 : (t354 != x14_10) = false := bne_eq_false_iff_eq.mpr c40
          clear c40
          by_cases c41 : t356 = (wrap64 (2 - x14_10))
          ·rw [if_pos c41] at H
           have c41b0 : (t356 == (wrap64 (2 - x14_10))) = true := beq_iff_eq.mpr c41
           have c41b1 : (t356 != (wrap64 (2 - x14_10))) = false := bne_eq_false_iff_eq.mpr c41
           clear c41
           obtain rfl := Option.some.inj H
           go_wp2_with (first | ((with_reducible refine gate_callee (f := 16) rfl ?_); refine goesL_ (some 60) rfl rfl Tryd.func16 (by kernel_rfl) rfl #[.int .i64 t355] rfl mA ?_; (with_reducible refine (quaerelaw0_Num.calls t355 t362 _ A32.out).mono ?_); rintro e w' ⟨rfl, ⟨nd, rfl⟩⟩; refine ⟨_, rfl, ?_⟩) | (go_at_call 16; (with_reducible refine (quaerelaw0_Num.calls t357 t363 _ A34.out).mono ?_); rintro e w' ⟨rfl, ⟨nd, rfl⟩⟩) | (go_at_call 16; (with_reducible refine (quaerelaw0_Num.calls t359 t364 _ A36.out).mono ?_); rintro e w' ⟨rfl, ⟨nd, rfl⟩⟩) | (go_at_call 16; (with_reducible refine (quaerelaw0_Num.calls t361 t365 _ A38.out).mono ?_); rintro e w' ⟨rfl, ⟨nd, rfl⟩⟩))
           go_ret
           exact ⟨eK, bS⟩
          ·rw [if_neg c41] at H
           have c41b0 : (t356 == (wrap64 (2 - x14_10))) = false := beq_eq_false_iff_ne.mpr c41
           have c41b1 : (t356 != (wrap64 (2 - x14_10))) = true := bne_iff_ne.mpr c41
           obtain rfl := Option.some.inj H
           go_wp2_with (first | ((with_reducible refine gate_callee (f := 16) rfl ?_); refine goesL_ (some 60) rfl rfl Tryd.func16 (by kernel_rfl) rfl #[.int .i64 t355] rfl mA ?_; (with_reducible refine (quaerelaw0_Num.calls t355 t362 _ A32.out).mono ?_); rintro e w' ⟨rfl, ⟨nd, rfl⟩⟩; refine ⟨_, rfl, ?_⟩) | (go_at_call 16; (with_reducible refine (quaerelaw0_Num.calls t357 t363 _ A34.out).mono ?_); rintro e w' ⟨rfl, ⟨nd, rfl⟩⟩) | (go_at_call 16; (with_reducible refine (quaerelaw0_Num.calls t359 t364 _ A36.out).mono ?_); rintro e w' ⟨rfl, ⟨nd, rfl⟩⟩) | (go_at_call 16; (with_reducible refine (quaerelaw0_Num.calls t361 t365 _ A38.out).mono ?_); rintro e w' ⟨rfl, ⟨nd, rfl⟩⟩))
           go_ret
           exact ⟨eK, bS⟩
         ·rw [if_neg c40] at H
          have c40b0 : (t354 == x14_10) = false := beq_eq_false_iff_ne.mpr c40
          have c40b1 : (t354 != x14_10) = true := bne_iff_ne.mpr c40
          obtain rfl := Option.some.inj H
          go_wp2_with (first | ((with_reducible refine gate_callee (f := 16) rfl ?_); refine goesL_ (some 60) rfl rfl Tryd.func16 (by kernel_rfl) rfl #[.int .i64 t355] rfl mA ?_; (with_reducible refine (quaerelaw0_Num.calls t355 t362 _ A32.out).mono ?_); rintro e w' ⟨rfl, ⟨nd, rfl⟩⟩; refine ⟨_, rfl, ?_⟩) | (go_at_call 16; (with_reducible refine (quaerelaw0_Num.calls t357 t363 _ A34.out).mono ?_); rintro e w' ⟨rfl, ⟨nd, rfl⟩⟩) | (go_at_call 16; (with_reducible refine (quaerelaw0_Num.calls t359 t364 _ A36.out).mono ?_); rintro e w' ⟨rfl, ⟨nd, rfl⟩⟩) | (go_at_call 16; (with_reducible refine (quaerelaw0_Num.calls t361 t365 _ A38.out).mono ?_); rintro e w' ⟨rfl, ⟨nd, rfl⟩⟩))
          go_ret
          exact ⟨eK, bS⟩
        ·rw [if_neg c39] at H
         have c39b0 : (t365 == 0) = false := beq_eq_false_iff_ne.mpr c39
         have c39b1 : (t365 != 0) = true := bne_iff_ne.mpr c39
         obtain rfl := Option.some.inj H
         go_wp2_with (first | ((with_reducible refine gate_callee (f := 16) rfl ?_); refine goesL_ (some 60) rfl rfl Tryd.func16 (by kernel_rfl) rfl #[.int .i64 t355] rfl mA ?_; (with_reducible refine (quaerelaw0_Num.calls t355 t362 _ A32.out).mono ?_); rintro e w' ⟨rfl, ⟨nd, rfl⟩⟩; refine ⟨_, rfl, ?_⟩) | (go_at_call 16; (with_reducible refine (quaerelaw0_Num.calls t357 t363 _ A34.out).mono ?_); rintro e w' ⟨rfl, ⟨nd, rfl⟩⟩) | (go_at_call 16; (with_reducible refine (quaerelaw0_Num.calls t359 t364 _ A36.out).mono ?_); rintro e w' ⟨rfl, ⟨nd, rfl⟩⟩) | (go_at_call 16; (with_reducible refine (quaerelaw0_Num.calls t361 t365 _ A38.out).mono ?_); rintro e w' ⟨rfl, ⟨nd, rfl⟩⟩))
         go_ret
         exact ⟨eK, bS⟩
       ·rw [if_neg c37] at H
        have c37b0 : (t364 == 0) = false := beq_eq_false_iff_ne.mpr c37
        have c37b1 : (t364 != 0) = true := bne_iff_ne.mpr c37
        obtain rfl := Option.some.inj H
        go_wp2_with (first | ((with_reducible refine gate_callee (f := 16) rfl ?_); refine goesL_ (some 60) rfl rfl Tryd.func16 (by kernel_rfl) rfl #[.int .i64 t355] rfl mA ?_; (with_reducible refine (quaerelaw0_Num.calls t355 t362 _ A32.out).mono ?_); rintro e w' ⟨rfl, ⟨nd, rfl⟩⟩; refine ⟨_, rfl, ?_⟩) | (go_at_call 16; (with_reducible refine (quaerelaw0_Num.calls t357 t363 _ A34.out).mono ?_); rintro e w' ⟨rfl, ⟨nd, rfl⟩⟩) | (go_at_call 16; (with_reducible refine (quaerelaw0_Num.calls t359 t364 _ A36.out).mono ?_); rintro e w' ⟨rfl, ⟨nd, rfl⟩⟩))
        go_ret
        exact ⟨eK, bS⟩
      ·rw [if_neg c35] at H
       have c35b0 : (t363 == 0) = false := beq_eq_false_iff_ne.mpr c35
       have c35b1 : (t363 != 0) = true := bne_iff_ne.mpr c35
       obtain rfl := Option.some.inj H
       go_wp2_with (first | ((with_reducible refine gate_callee (f := 16) rfl ?_); refine goesL_ (some 60) rfl rfl Tryd.func16 (by kernel_rfl) rfl #[.int .i64 t355] rfl mA ?_; (with_reducible refine (quaerelaw0_Num.calls t355 t362 _ A32.out).mono ?_); rintro e w' ⟨rfl, ⟨nd, rfl⟩⟩; refine ⟨_, rfl, ?_⟩) | (go_at_call 16; (with_reducible refine (quaerelaw0_Num.calls t357 t363 _ A34.out).mono ?_); rintro e w' ⟨rfl, ⟨nd, rfl⟩⟩))
       go_ret
       exact ⟨eK, bS⟩
     ·rw [if_neg c33] at H
      have c33b0 : (t362 == 0) = false := beq_eq_false_iff_ne.mpr c33
      have c33b1 : (t362 != 0) = true := bne_iff_ne.mpr c33
      obtain rfl := Option.some.inj H
      go_wp2_with (first | ((with_reducible refine gate_callee (f := 16) rfl ?_); refine goesL_ (some 60) rfl rfl Tryd.func16 (by kernel_rfl) rfl #[.int .i64 t355] rfl mA ?_; (with_reducible refine (quaerelaw0_Num.calls t355 t362 _ A32.out).mono ?_); rintro e w' ⟨rfl, ⟨nd, rfl⟩⟩; refine ⟨_, rfl, ?_⟩))
      go_ret
      exact ⟨eK, bS⟩
  ·replace c6 := Bool.eq_false_iff.mpr c6
   subst c6
   have H1 : ((lit_May.f k l0 (!a1_0) l1_1).bind fun t353 => (some (!t353))) = some r := by rw [if_neg (show ¬ (false = true) by decide)] at H; exact H
   clear H
   have H := H1
   clear H1
   replace H := Option.bind_eq_some_iff.mp H
   obtain ⟨t353, A420, H⟩ := H
   replace H : (some (!t353)) = some r := H
   have A42 := Aside0.mk A420
   clear A420
   obtain rfl := Option.some.inj H
   go_enter Tryd.func5, Tryd.ntmps5
   go_wp2_with (first | ((with_reducible refine gate_dst (N := 3) rfl ?_); refine box_event ?hg (N := 3) ?hd (cs := #[.bool a1_0, .slice A1_1 l1_1.length c1_1]) (t := 25) ?hr ?_; (case hd => rfl); (case hg => rfl); (case hr => first | (go_simp; done) | (go_simp; rfl)); intro gb349 hg w43 hbox hb; have n0_ := Aside0.mk (below_step bB hb); have n1_ := Aside0.mk (hbox); have n2_ := Aside0.mk ((by rw [hg]; exact (below_size bB) : w.heap.size ≤ gb349)); have n3_ := Aside0.mk ((by rw [hg]; exact (below_size bB) : w.heap.size ≤ gb349)); clear HB; have HB := n0_; have BK349 := n1_; have GW349 := n2_; have GE349 := n3_; clear n0_ n1_ n2_ n3_; clear hb hbox hg) | ((with_reducible refine gate_callee (f := 18) rfl ?_); refine goesL_ (some 15) rfl rfl Tryd.func18 (by kernel_rfl) rfl #[] rfl mA ?_; (with_reducible refine (quaerelaw7_awake.calls (hG := gK) k  true _ A3.out).mono ?_); rintro e w44 ⟨rfl, hb⟩; refine ⟨_, rfl, ?_⟩; have n0_ := Aside0.mk (blk_below (g := gb349) (o := .cells #[.bool a1_0, .slice A1_1 l1_1.length c1_1] 25 (0, 0)) (bK BK349) hb); have n1_ := Aside0.mk (below_step bS hb); clear BK349; clear HB; have BK349 := n0_; have HB := n1_; clear n0_ n1_; (try clear hb); (try clear hb2); (try clear hk); (try clear hi); have hcz45_0 : w44.cell? ⟨gb349, 0, none⟩ = some (.bool a1_0) := (blk_cell BK349.out 0).trans rfl; have hcz45_1 : w44.cell? ⟨gb349, 1, none⟩ = some (.slice A1_1 l1_1.length c1_1) := (blk_cell BK349.out 1).trans rfl; have hfz45_0 := blk_frozen BK349.out 0; have hfz45_1 := blk_frozen BK349.out 1) | ((with_reducible refine gate_dst (N := 5) rfl ?_); refine box_event ?hg (N := 5) ?hd (cs := #[.bool false, .slice none 0 0]) (t := 25) ?hr ?_; (case hd => rfl); (case hg => rfl); (case hr => first | (go_simp; done) | (go_simp; rfl)); intro gb351 hg w46 hbox hb; have n0_ := Aside0.mk (blk_below (g := gb349) (o := .cells #[.bool a1_0, .slice A1_1 l1_1.length c1_1] 25 (0, 0)) (bK BK349) hb); have n1_ := Aside0.mk (below_step bS hb); have n2_ := Aside0.mk (hbox); have n3_ := Aside0.mk ((by rw [hg]; exact (below_size bS) : w.heap.size ≤ gb351)); have n4_ := Aside0.mk ((by rw [hg]; exact (below_size bS) : w.heap.size ≤ gb351)); have n5_ := Aside0.mk ((by rw [hg]; exact Nat.ne_of_lt (blk_lt (g := gb349) (o := .cells #[.bool a1_0, .slice A1_1 l1_1.length c1_1] 25 (0, 0)) (bK BK349)) : gb349 ≠ gb351)); have n6_ := Aside0.mk ((by rw [hg]; exact Nat.ne_of_gt (blk_lt (g := gb349) (o := .cells #[.bool a1_0, .slice A1_1 l1_1.length c1_1] 25 (0, 0)) (bK BK349)) : gb351 ≠ gb349)); clear BK349; clear HB; have BK349 := n0_; have HB := n1_; have BK351 := n2_; have GW351 := n3_; have GE351 := n4_; have NB349_351 := n5_; have NB351_349 := n6_; clear n0_ n1_ n2_ n3_ n4_ n5_ n6_; clear hb hbox hg; have hnb47 := NB351_349.out; have hnc47 := NB349_351.out; have hcz48_0 : w46.cell? ⟨gb351, 0, none⟩ = some (.bool false) := (blk_cell BK351.out 0).trans rfl; have hcz48_1 : w46.cell? ⟨gb351, 1, none⟩ = some (.slice none 0 0) := (blk_cell BK351.out 1).trans rfl; have hfz48_0 := blk_frozen BK351.out 0; have hfz48_1 := blk_frozen BK351.out 1; have hcz49_0 : w46.cell? ⟨gb349, 0, none⟩ = some (.bool a1_0) := (blk_cell BK349.out 0).trans rfl; have hcz49_1 : w46.cell? ⟨gb349, 1, none⟩ = some (.slice A1_1 l1_1.length c1_1) := (blk_cell BK349.out 1).trans rfl; have hfz49_0 := blk_frozen BK349.out 0; have hfz49_1 := blk_frozen BK349.out 1) | ((with_reducible refine gate_callee (f := 14) rfl ?_); refine goesL_ (some 25) rfl rfl Tryd.func14 (by kernel_rfl) rfl #[.slice A0 l0.length c0, .agg #[.bool a1_0, .slice A1_1 l1_1.length c1_1]] rfl mA ?_; (with_reducible refine (lit_May.calls (hG := gK) k _ _ l0 a1_0 _ _ l1_1 false _ ?side1 ?side2 ?side3 ?side4 A5.out).mono ?_); (case side1 => exact Kd.C_below HR0.out bS); (case side2 => exact HC0.out); (case side3 => exact Kd.C_below HR1_1.out bS); (case side4 => exact HC1_1.out); rintro e w50 ⟨rfl, hb⟩; refine ⟨_, rfl, ?_⟩; have n0_ := Aside0.mk (blk_below (g := gb349) (o := .cells #[.bool a1_0, .slice A1_1 l1_1.length c1_1] 25 (0, 0)) (by (with_reducible repeat (first | refine blk_drewN ?_ _ | refine blk_drew ?_ | refine blk_alloc ?_ _)); refine blk_far ?_ NB349_351.out _; (with_reducible repeat (first | refine blk_drewN ?_ _ | refine blk_drew ?_ | refine blk_alloc ?_ _)); refine blk_far ?_ NB349_351.out _; (with_reducible repeat (first | refine blk_drewN ?_ _ | refine blk_drew ?_ | refine blk_alloc ?_ _)); exact BK349.out) hb); have n1_ := Aside0.mk (blk_below (g := gb351) (o := .cells #[.bool (!a1_0), .slice A1_1 l1_1.length c1_1] 25 (0, 0)) (by (with_reducible repeat (first | refine blk_drewN ?_ _ | refine blk_drew ?_ | refine blk_alloc ?_ _)); refine blk_put (cs := #[.bool (!a1_0), .slice none 0 0]) ?_ 1 _ rfl; (with_reducible repeat (first | refine blk_drewN ?_ _ | refine blk_drew ?_ | refine blk_alloc ?_ _)); refine blk_put (cs := #[.bool false, .slice none 0 0]) ?_ 0 _ rfl; (with_reducible repeat (first | refine blk_drewN ?_ _ | refine blk_drew ?_ | refine blk_alloc ?_ _)); exact BK351.out) hb); have n2_ := Aside0.mk (below_step bS hb); clear BK349; clear BK351; clear HB; have BK349 := n0_; have BK351 := n1_; have HB := n2_; clear n0_ n1_ n2_; (try clear hb); (try clear hb2); (try clear hk); (try clear hi); have hcz51_0 : w50.cell? ⟨gb351, 0, none⟩ = some (.bool (!a1_0)) := (blk_cell BK351.out 0).trans rfl; have hcz51_1 : w50.cell? ⟨gb351, 1, none⟩ = some (.slice A1_1 l1_1.length c1_1) := (blk_cell BK351.out 1).trans rfl; have hfz51_0 := blk_frozen BK351.out 0; have hfz51_1 := blk_frozen BK351.out 1) | ((with_reducible refine gate_callee (f := 14) rfl ?_); refine goesL_ (some 29) rfl rfl Tryd.func14 (by kernel_rfl) rfl #[.slice A0 l0.length c0, .agg #[.bool (!a1_0), .slice A1_1 l1_1.length c1_1]] rfl mA ?_; (with_reducible refine (lit_May.calls (hG := gK) k _ _ l0 (!a1_0) _ _ l1_1 t353 _ ?side1 ?side2 ?side3 ?side4 A42.out).mono ?_); (case side1 => exact cK (Kd.C_below HR0.out HB.out)); (case side2 => exact HC0.out); (case side3 => exact cK (Kd.C_below HR1_1.out HB.out)); (case side4 => exact HC1_1.out); rintro e w52 ⟨rfl, hb⟩; refine ⟨_, rfl, ?_⟩; have n0_ := Aside0.mk (blk_below (g := gb349) (o := .cells #[.bool a1_0, .slice A1_1 l1_1.length c1_1] 25 (0, 0)) (bK BK349) hb); have n1_ := Aside0.mk (blk_below (g := gb351) (o := .cells #[.bool (!a1_0), .slice A1_1 l1_1.length c1_1] 25 (0, 0)) (bK BK351) hb); have n2_ := Aside0.mk (below_step bS hb); clear BK349; clear BK351; clear HB; have BK349 := n0_; have BK351 := n1_; have HB := n2_; clear n0_ n1_ n2_; (try clear hb); (try clear hb2); (try clear hk); (try clear hi)))
   go_ret
   exact ⟨eK, bS⟩
 ·replace c4 := Bool.eq_false_iff.mpr c4
  subst c4
  have H1 : (some false) = some r := by rw [if_neg (show ¬ (false = true) by decide)] at H; exact H
  clear H
  have H := H1
  clear H1
  obtain rfl := Option.some.inj H
  go_enter Tryd.func5, Tryd.ntmps5
  go_wp2_with (first | ((with_reducible refine gate_dst (N := 3) rfl ?_); refine box_event ?hg (N := 3) ?hd (cs := #[.bool a1_0, .slice A1_1 l1_1.length c1_1]) (t := 25) ?hr ?_; (case hd => rfl); (case hg => rfl); (case hr => first | (go_simp; done) | (go_simp; rfl)); intro gb349 hg w53 hbox hb; have n0_ := Aside0.mk (below_step bB hb); have n1_ := Aside0.mk (hbox); have n2_ := Aside0.mk ((by rw [hg]; exact (below_size bB) : w.heap.size ≤ gb349)); have n3_ := Aside0.mk ((by rw [hg]; exact (below_size bB) : w.heap.size ≤ gb349)); clear HB; have HB := n0_; have BK349 := n1_; have GW349 := n2_; have GE349 := n3_; clear n0_ n1_ n2_ n3_; clear hb hbox hg) | ((with_reducible refine gate_callee (f := 18) rfl ?_); refine goesL_ (some 15) rfl rfl Tryd.func18 (by kernel_rfl) rfl #[] rfl mA ?_; (with_reducible refine (quaerelaw7_awake.calls (hG := gK) k  false _ A3.out).mono ?_); rintro e w54 ⟨rfl, hb⟩; refine ⟨_, rfl, ?_⟩; have n0_ := Aside0.mk (blk_below (g := gb349) (o := .cells #[.bool a1_0, .slice A1_1 l1_1.length c1_1] 25 (0, 0)) (bK BK349) hb); have n1_ := Aside0.mk (below_step bS hb); clear BK349; clear HB; have BK349 := n0_; have HB := n1_; clear n0_ n1_; (try clear hb); (try clear hb2); (try clear hk); (try clear hi)))
  go_ret
  exact ⟨eK, bS⟩

end Go.Proofs.YtfnemhkiopgeaaaDoor.PL
