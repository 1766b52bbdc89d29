-- written by a program of this session's (wip/tools/pp.py), after the kit's print
import Derived.Test.YtaegdhpcnpojnaaDoorPUx0
import Derived.Test.YtaegdhpcnpojnaaDoorPUx4
import Derived.Test.YtaegdhpcnpojnaaDoorPUx12
import Derived.Test.YtaegdhpcnpojnaaDoorPUx15
namespace Go.Proofs.YtaegdhpcnpojnaaDoor.PU
open Go.RowKit Go.Proofs.YtaegdhpcnpojnaaDoorW.PrintWords Go.Proofs.YtaegdhpcnpojnaaDoorW.PrintLast Go.Proofs.YtaegdhpcnpojnaaDoorW.PrintMore
attribute [local go_sem] jump_ret max2_int min2_int max_two min_two max_three min_three max_four min_four   -- for this text's walks alone
set_option linter.unusedVariables false
set_option linter.unusedSimpArgs false

/-! ### quaerelaw4_UnifyDeep: function 5 -/
mutual
noncomputable def quaerelaw4_UnifyDeep.l0 : Nat → List (S66) → List Int → Int → Int → Int → Option (Bool)
 | 0, _, _, _, _, _ => none
 | k + 1, x0, x1, x7, x8, x9 => if x9 < (x1.length : Int) then (if 0 ≤ x9 then (if (rd x1 x9) = (wrap64 ((-1) - x7)) then (quaerelaw4_UnifyDeep.l0 k x0 x1 x7 (wrap64 (x8 + 1)) (wrap64 (x9 + 1))) else (quaerelaw4_UnifyDeep.l0 k x0 x1 x7 x8 (wrap64 (x9 + 1)))) else (none)) else ((unify_Unify.f x0 (([wrap64 ((-1) - x7)] : List Int)) x1).bind fun bt317 => ((quaerelaw0_Num.f bt317.2.2).bind fun t322 => (if t322 = 0 then (if (x1.length : Int) = 1 then (if 0 < (x1.length : Int) then (quaerelaw4_UnifyDeep.j1 k x1 x7 x8 bt317.1 bt317.2.1 (decide ((rd x1 0) < 0))) else (none)) else (quaerelaw4_UnifyDeep.j1 k x1 x7 x8 bt317.1 bt317.2.1 false)) else (if (bt317.1.length : Int) = 0 then (some (!bt317.2.1)) else (some false)))))
noncomputable def quaerelaw4_UnifyDeep.j1 : Nat → List Int → Int → Int → List (S41) → Bool → Bool → Option (Bool)
 | 0, _, _, _, _, _, _ => none
 | k + 1, x1, x7, x8, x10, x11, x62 => if x62 = true then (if x11 = true then (some ((x10.length : Int) == (wrap64 (1 - x8)))) else (some false)) else (if x8 > 0 then (if x11 = true then (some false) else (some ((x10.length : Int) == 0))) else (if x11 = true then (if (x10.length : Int) = 1 then (if 0 < (x10.length : Int) then (if ((rd_T41 x10 0).f0) = x7 then ((quaerelaw0_SameInts.f k ((rd_T41 x10 0).f1) x1).bind fun t326 => (some t326)) else (some false)) else (none)) else (some false)) else (some ((x10.length : Int) == 0))))
end
noncomputable def quaerelaw4_UnifyDeep.f (k : Nat) (l0 : List (S66)) (l1 : List Int) (a2 : Int) : Option (Bool) := (quaerelaw4_awake.f k).bind fun t312 => (if t312 = true then (quaerelaw4_UnifyDeep.l0 k l0 l1 (wrap64 (Int.tmod (IntKind.u64.wrap (a2)) 24)) 0 0) else (some false))
theorem quaerelaw4_UnifyDeep.mono_l : ∀ k, (∀ y0 y1 y2 y3 y4, LeO (quaerelaw4_UnifyDeep.l0 k y0 y1 y2 y3 y4) (quaerelaw4_UnifyDeep.l0 (k + 1) y0 y1 y2 y3 y4)) ∧ (∀ y0 y1 y2 y3 y4 y5, LeO (quaerelaw4_UnifyDeep.j1 k y0 y1 y2 y3 y4 y5) (quaerelaw4_UnifyDeep.j1 (k + 1) y0 y1 y2 y3 y4 y5))
 | 0 => ⟨fun _ _ _ _ _ r h => by simp [quaerelaw4_UnifyDeep.l0] at h, fun _ _ _ _ _ _ r h => by simp [quaerelaw4_UnifyDeep.j1] at h⟩
 | k + 1 => by
  obtain ⟨ih0, ih1⟩ := quaerelaw4_UnifyDeep.mono_l k
  refine ⟨?_, ?_⟩
  ·intro y0 y1 y2 y3 y4
   unfold quaerelaw4_UnifyDeep.l0
   repeat' first
   | (with_reducible exact ih0 _ _ _ _ _)
   | (with_reducible exact ih1 _ _ _ _ _ _)
   | (with_reducible exact quaerelaw0_SameInts.mono _ _ _)
   | (with_reducible exact quaerelaw4_awake.mono _)
   | (with_reducible exact LeO.refl _)
   | (with_reducible exact LeO.none _)
   | (with_reducible refine LeO.ite ?_ ?_)
   | (with_reducible refine LeO.bind ?_ (fun _ => ?_))
   | exact ih0 _ _ _ _ _
   | exact ih1 _ _ _ _ _ _
   | exact quaerelaw0_SameInts.mono _ _ _
   | exact quaerelaw4_awake.mono _
   | exact LeO.none _
   | refine LeO.ite ?_ ?_
   | refine LeO.bind ?_ (fun _ => ?_)
  ·intro y0 y1 y2 y3 y4 y5
   unfold quaerelaw4_UnifyDeep.j1
   repeat' first
   | (with_reducible exact ih0 _ _ _ _ _)
   | (with_reducible exact ih1 _ _ _ _ _ _)
   | (with_reducible exact quaerelaw0_SameInts.mono _ _ _)
   | (with_reducible exact quaerelaw4_awake.mono _)
   | (with_reducible exact LeO.refl _)
   | (with_reducible exact LeO.none _)
   | (with_reducible refine LeO.ite ?_ ?_)
   | (with_reducible refine LeO.bind ?_ (fun _ => ?_))
   | exact ih0 _ _ _ _ _
   | exact ih1 _ _ _ _ _ _
   | exact quaerelaw0_SameInts.mono _ _ _
   | exact quaerelaw4_awake.mono _
   | exact LeO.none _
   | refine LeO.ite ?_ ?_
   | refine LeO.bind ?_ (fun _ => ?_)
theorem quaerelaw4_UnifyDeep.mono : ∀ a0 a1 a2 k, LeO (quaerelaw4_UnifyDeep.f k a0 a1 a2) (quaerelaw4_UnifyDeep.f (k + 1) a0 a1 a2) := by
 intro a0 a1 a2 k
 obtain ⟨ih0, ih1⟩ := quaerelaw4_UnifyDeep.mono_l k
 unfold quaerelaw4_UnifyDeep.f
 repeat' first
   | (with_reducible exact ih0 _ _ _ _ _)
   | (with_reducible exact ih1 _ _ _ _ _ _)
   | (with_reducible exact quaerelaw0_SameInts.mono _ _ _)
   | (with_reducible exact quaerelaw4_awake.mono _)
   | (with_reducible exact LeO.refl _)
   | (with_reducible exact LeO.none _)
   | (with_reducible refine LeO.ite ?_ ?_)
   | (with_reducible refine LeO.bind ?_ (fun _ => ?_))
   | exact ih0 _ _ _ _ _
   | exact ih1 _ _ _ _ _ _
   | exact quaerelaw0_SameInts.mono _ _ _
   | exact quaerelaw4_awake.mono _
   | exact LeO.none _
   | refine LeO.ite ?_ ?_
   | refine LeO.bind ?_ (fun _ => ?_)
set_option maxHeartbeats 8000000 in
set_option maxRecDepth 100000 in
theorem quaerelaw4_UnifyDeep.calls (k : Nat) (A0 : Option Addr) (c0 : Nat) (l0 : List (S66)) (A1 : Option Addr) (c1 : Nat) (l1 : List Int) (a2 : Int) (r : Bool) (w : World) (hr0 : Kd.C k66 w A0 l0.length l0) (hc0 : l0.length ≤ c0) (hr1 : Kd.C (Kd.int .i64) w A1 l1.length l1) (hc1 : l1.length ≤ c1) (h : quaerelaw4_UnifyDeep.f k l0 l1 a2 = some r) (hG : Glob w) :
  Calls Tryd.prog 5 #[.slice A0 l0.length c0, .slice A1 l1.length c1, .int .i64 a2] w fun e w' => e = .returned (.bool r) ∧ Below w.heap.size w w' := by
 have HR0 := Aside0.mk hr0
 have HC0 := Aside0.mk hc0
 clear hr0 hc0
 have HR1 := Aside0.mk hr1
 have HC1 := Aside0.mk hc1
 clear hr1 hc1
 have HB := Aside0.mk (Below.refl w.heap.size w)
 have H : ((quaerelaw4_awake.f k).bind fun t312 => (if t312 = true then (quaerelaw4_UnifyDeep.l0 k l0 l1 (wrap64 (Int.tmod (IntKind.u64.wrap (a2)) 24)) 0 0) else (some false))) = some r := h
 clear h
 replace H := Option.bind_eq_some_iff.mp H
 obtain ⟨t312, A40, H⟩ := H
 replace H : (if t312 = true then (quaerelaw4_UnifyDeep.l0 k l0 l1 (wrap64 (Int.tmod (IntKind.u64.wrap (a2)) 24)) 0 0) else (some false)) = some r := H
 have A4 := Aside0.mk A40
 clear A40
 by_cases c5 : t312 = true
 ·subst c5
  have H1 : (quaerelaw4_UnifyDeep.l0 k l0 l1 (wrap64 (Int.tmod (IntKind.u64.wrap (a2)) 24)) 0 0) = some r := by rw [if_pos rfl] at H; exact H
  clear H
  have H := H1
  clear H1
  have H' := Aside0.mk H
  clear H
  go_enter Tryd.func5, Tryd.ntmps5
  go_wp2_with (first | ((with_reducible refine gate_callee (f := 16) rfl ?_); refine goesL_ (some 13) rfl rfl Tryd.func16 (by kernel_rfl) rfl #[] rfl mA ?_; (with_reducible refine (quaerelaw4_awake.calls (hG := gK) k  true _ A4.out).mono ?_); rintro e w6 ⟨rfl, hb⟩; refine ⟨_, rfl, ?_⟩; have n0_ := Aside0.mk (below_step bB hb); clear HB; have HB := n0_; clear n0_; (try clear hb); (try clear hb2); (try clear hk); (try clear hi)))
  go_loopg [8, 9] k (fun kq v8 v9 w' => ∃ (x8_1 : Int) (x9_1 : Int), v8 = .int .i64 x8_1 ∧ v9 = .int .i64 x9_1 ∧ Aside0 (quaerelaw4_UnifyDeep.l0 kq l0 l1 (wrap64 (Int.tmod (IntKind.u64.wrap (a2)) 24)) x8_1 x9_1 = some r) ∧ Aside0 (kq ≤ k) ∧ Aside0 (Below w.heap.size w w'))
  case atStart => exact ⟨(0), (0), sK, sK, H', ⟨Nat.le_refl _⟩, ⟨bB⟩⟩
  case round =>
   clear H'
   try clear c1
   try clear p2
   try clear c5
   try clear p6
   obtain ⟨x8_1, x9_1, rfl, rfl, HA, HK1, HB⟩ := hrel
   cases gk with
   | zero => exact absurd HA.out (by simp [quaerelaw4_UnifyDeep.l0])
   | succ k1 =>
    have H := HA.out
    clear HA
    simp only [quaerelaw4_UnifyDeep.l0] at H
    by_cases c7 : x9_1 < (l1.length : Int)
    ·rw [if_pos c7] at H
     have c7b0 : decide (x9_1 < (l1.length : Int)) = true := decide_eq_true c7
     clear c7
     by_cases c8 : 0 ≤ x9_1
     ·rw [if_pos c8] at H
      have c8b0 : decide (0 ≤ x9_1) = true := decide_eq_true c8
      clear c8
      by_cases c9 : (rd l1 x9_1) = (wrap64 ((-1) - (wrap64 (Int.tmod (IntKind.u64.wrap (a2)) 24))))
      ·rw [if_pos c9] at H
       have c9b0 : ((rd l1 x9_1) == (wrap64 ((-1) - (wrap64 (Int.tmod (IntKind.u64.wrap (a2)) 24))))) = true := beq_iff_eq.mpr c9
       have c9b1 : ((rd l1 x9_1) != (wrap64 ((-1) - (wrap64 (Int.tmod (IntKind.u64.wrap (a2)) 24))))) = false := bne_eq_false_iff_eq.mpr c9
       clear c9
       have H' := Aside0.mk H
       clear H
       have p313 : 0 ≤ (x9_1 : Int) := of_decide_eq_true aK
       have q313 : x9_1 < (l1.length : Int) := of_decide_eq_true aK
       obtain ⟨ad313, e313, hx313_0⟩ := Kd.at_int HR1.out x9_1 p313 q313
       cases e313
       replace hx313_0 := (HB.out.cell (World.block_lt_of_cell? w _ hx313_0)).trans hx313_0
       replace p313 := eq_true p313
       replace q313 := eq_true q313
       go_wp2
       go_roundg k1
       case measure => have := HK1.out; omega
       case rel => exact ⟨(wrap64 (x8_1 + 1)), (wrap64 (x9_1 + 1)), sK, sK, H', ⟨by have := HK1.out; omega⟩, ⟨bB⟩⟩
      ·rw [if_neg c9] at H
       have c9b0 : ((rd l1 x9_1) == (wrap64 ((-1) - (wrap64 (Int.tmod (IntKind.u64.wrap (a2)) 24))))) = false := beq_eq_false_iff_ne.mpr c9
       have c9b1 : ((rd l1 x9_1) != (wrap64 ((-1) - (wrap64 (Int.tmod (IntKind.u64.wrap (a2)) 24))))) = true := bne_iff_ne.mpr c9
       have H' := Aside0.mk H
       clear H
       have p313 : 0 ≤ (x9_1 : Int) := of_decide_eq_true aK
       have q313 : x9_1 < (l1.length : Int) := of_decide_eq_true aK
       obtain ⟨ad313, e313, hx313_0⟩ := Kd.at_int HR1.out x9_1 p313 q313
       cases e313
       replace hx313_0 := (HB.out.cell (World.block_lt_of_cell? w _ hx313_0)).trans hx313_0
       replace p313 := eq_true p313
       replace q313 := eq_true q313
       go_wp2
       go_roundg k1
       case measure => have := HK1.out; omega
       case rel => exact ⟨(x8_1), (wrap64 (x9_1 + 1)), sK, sK, H', ⟨by have := HK1.out; omega⟩, ⟨bB⟩⟩
     ·rw [if_neg c8] at H
      exact absurd H (by simp)
    ·rw [if_neg c7] at H
     have c7b0 : decide (x9_1 < (l1.length : Int)) = false := decide_eq_false c7
     clear c7
     obtain ⟨y314, hy314⟩ : ∃ y_ : List Int, y_ = (([wrap64 ((-1) - (wrap64 (Int.tmod (IntKind.u64.wrap (a2)) 24)))] : List Int)) := ⟨_, rfl⟩
     replace H : ((unify_Unify.f l0 y314 l1).bind fun bt317 => ((quaerelaw0_Num.f bt317.2.2).bind fun t322 => (if t322 = 0 then (if (l1.length : Int) = 1 then (if 0 < (l1.length : Int) then (quaerelaw4_UnifyDeep.j1 k1 l1 (wrap64 (Int.tmod (IntKind.u64.wrap (a2)) 24)) x8_1 bt317.1 bt317.2.1 (decide ((rd l1 0) < 0))) else (none)) else (quaerelaw4_UnifyDeep.j1 k1 l1 (wrap64 (Int.tmod (IntKind.u64.wrap (a2)) 24)) x8_1 bt317.1 bt317.2.1 false)) else (if (bt317.1.length : Int) = 0 then (some (!bt317.2.1)) else (some false))))) = some r := by first | (rw [hy314]; with_reducible exact H) | (have H2_ := (Option.bind_some _ _).symm.trans H; rw [hy314]; with_reducible exact H2_) | (have H2_ := (Option.bind_some _ _).symm.trans H; with_reducible exact H2_) | with_reducible exact H | (rw [hy314]; exact H) | exact H
     have Ny314 := Aside0.mk hy314
     clear hy314
     replace H := Option.bind_eq_some_iff.mp H
     obtain ⟨⟨t317, t318, t319⟩, A100, H⟩ := H
     replace H : ((quaerelaw0_Num.f t319).bind fun t322 => (if t322 = 0 then (if (l1.length : Int) = 1 then (if 0 < (l1.length : Int) then (quaerelaw4_UnifyDeep.j1 k1 l1 (wrap64 (Int.tmod (IntKind.u64.wrap (a2)) 24)) x8_1 t317 t318 (decide ((rd l1 0) < 0))) else (none)) else (quaerelaw4_UnifyDeep.j1 k1 l1 (wrap64 (Int.tmod (IntKind.u64.wrap (a2)) 24)) x8_1 t317 t318 false)) else (if (t317.length : Int) = 0 then (some (!t318)) else (some false)))) = some r := H
     have A10 := Aside0.mk A100
     clear A100
     replace H := Option.bind_eq_some_iff.mp H
     obtain ⟨t322, A110, H⟩ := H
     replace H : (if t322 = 0 then (if (l1.length : Int) = 1 then (if 0 < (l1.length : Int) then (quaerelaw4_UnifyDeep.j1 k1 l1 (wrap64 (Int.tmod (IntKind.u64.wrap (a2)) 24)) x8_1 t317 t318 (decide ((rd l1 0) < 0))) else (none)) else (quaerelaw4_UnifyDeep.j1 k1 l1 (wrap64 (Int.tmod (IntKind.u64.wrap (a2)) 24)) x8_1 t317 t318 false)) else (if (t317.length : Int) = 0 then (some (!t318)) else (some false))) = some r := H
     have A11 := Aside0.mk A110
     clear A110
     by_cases c12 : t322 = 0
     ·rw [if_pos c12] at H
      have c12b0 : (t322 == 0) = true := beq_iff_eq.mpr c12
      have c12b1 : (t322 != 0) = false := bne_eq_false_iff_eq.mpr c12
      clear c12
      have HC13 := Aside0.mk H
      clear H
      go_upto_region 13 with (first | ((with_reducible refine gate_dst (N := 38) rfl ?_); (try (refine gate_guard (by rfl) ?_; dsimp only)); refine Kd.R_lit (Kd.int .i64) _ 3 ?hg (N := 38) ?hd (xs := ([wrap64 ((-1) - (wrap64 (Int.tmod (IntKind.u64.wrap (a2)) 24)))] : List Int)) (inner := [.int .i64 (wrap64 ((-1) - (wrap64 (Int.tmod (IntKind.u64.wrap (a2)) 24))))]) (ok := fun _ => True) (okp := fun _ => True) ?hr ?hp (fun _ hk => hk) trivial (Below.refl _ _) (Nat.le_refl _) (by simp) ?_; (case hd => rfl); (case hg => rfl); (case hr => first | (go_simp; done) | (go_simp; rfl)); (case hp => exact (Reps.one (show Kd.M (Kd.int .i64) _ _ _ (wrap64 ((-1) - (wrap64 (Int.tmod (IntKind.u64.wrap (a2)) 24)))) [.int .i64 (wrap64 ((-1) - (wrap64 (Int.tmod (IntKind.u64.wrap (a2)) 24))))] from rfl) (Reps.none _ _))); intro v315 w14 ho15 hb hg_ hnew_; clear hg_ hnew_; (first | rw [← Ny314.out] at ho15 | (simp only [Int.reduceToNat] at ho15; rw [← Ny314.out] at ho15)); have n0_ := Aside0.mk (Kd.R_lower ho15 (below_size bB)); have n1_ := Aside0.mk (below_step bB hb); clear HB; have HO316 := n0_; have HB := n1_; clear n0_ n1_; clear hb ho15; obtain ⟨Ao16, co16, eo16⟩ := Kd.R_slice HO316.out; subst eo16) | ((with_reducible refine gate_callee (f := 10) rfl ?_); refine goesL_ (some 40) rfl rfl Tryd.func10 (by kernel_rfl) rfl #[.slice A0 l0.length c0, .slice Ao16 y314.length co16, .slice A1 l1.length c1] rfl mA ?_; (with_reducible refine (unify_Unify.calls (hG := gK) _ _ l0 _ _ y314 _ _ l1 t317 t318 t319 _ ?side1 ?side2 ?side3 ?side4 ?side5 ?side6 A10.out).mono ?_); (case side1 => exact cK (Kd.C_below HR0.out HB.out)); (case side2 => exact HC0.out); (case side3 => exact cK ((Kd.R_reads' HO316.out).2.2)); (case side4 => exact (Kd.R_reads' HO316.out).2.1); (case side5 => exact cK (Kd.C_below HR1.out HB.out)); (case side6 => exact HC1.out); rintro e w17 ⟨v320, rfl, ho0, hb⟩; refine ⟨_, rfl, ?_⟩; have n0_ := Aside0.mk (Kd.R_below (rK HO316) hb); have n1_ := Aside0.mk (Kd.S_lower (Kd.S_new' ho0 (Kd.R_lt (rK HO316))) (below_size bB)); have n2_ := Aside0.mk (below_step bB hb); clear HO316; clear HB; have HO316 := n0_; have HO321 := n1_; have HB := n2_; clear n0_ n1_ n2_; (try clear hb); (try clear hb2); (try clear hk); (try clear hi); (try clear ho0)) | ((with_reducible refine gate_callee (f := 13) rfl ?_); refine goesL_ (some 45) rfl rfl Tryd.func13 (by kernel_rfl) rfl #[.int .i64 t319] rfl mA ?_; (with_reducible refine (quaerelaw0_Num.calls t319 t322 _ A11.out).mono ?_); rintro e w' ⟨rfl, ⟨nd, rfl⟩⟩; refine ⟨_, rfl, ?_⟩))
      (try simp only [Act.put, List.setIfInBounds_toArray, List.set_cons_zero, List.set_cons_succ])
      go_cut [62] (fun v62 wc => ∃ (kq : Nat) (x62_12 : Bool), v62 = .bool x62_12 ∧ Aside0 (quaerelaw4_UnifyDeep.j1 kq l1 (wrap64 (Int.tmod (IntKind.u64.wrap (a2)) 24)) x8_1 t317 t318 x62_12 = some r) ∧ Aside0 (kq ≤ k1) ∧ Aside0 (Kd.S k41 41 wc w.heap.size (fun _ => True) v320 t317) ∧ Aside0 (Below w.heap.size w wc))
      case first =>
       have H := HC13.out
       clear HC13
       by_cases c18 : (l1.length : Int) = 1
       ·rw [if_pos c18] at H
        have c18b0 : ((l1.length : Int) == 1) = true := beq_iff_eq.mpr c18
        have c18b1 : ((l1.length : Int) != 1) = false := bne_eq_false_iff_eq.mpr c18
        clear c18
        (first | rw [c18b0] | (simp only [i64_w, i32_w]; rw [c18b0]) | skip)
        by_cases c19 : 0 < (l1.length : Int)
        ·rw [if_pos c19] at H
         have c19b0 : decide (0 < (l1.length : Int)) = true := decide_eq_true c19
         have c19b1 : decide (0 < l1.length) = true := decide_eq_true (by omega)
         clear c19
         have H' := Aside0.mk H
         clear H
         have p323 : 0 ≤ (0 : Int) := (by omega)
         have q323 : 0 < (l1.length : Int) := of_decide_eq_true aK
         obtain ⟨ad323, e323, hx323_0⟩ := Kd.at_int HR1.out 0 p323 q323
         cases e323
         have qi323 : (0 < l1.length) = True := eq_true (by omega)
         (try rw [show ((0 : Int)).toNat = 0 from rfl] at hx323_0)
         (try rw [Addr.add_zero'] at hx323_0)
         replace hx323_0 := (HB.out.cell (World.block_lt_of_cell? w _ hx323_0)).trans hx323_0
         replace p323 := eq_true p323
         replace q323 := eq_true q323
         go_wp2
         go_meet
         case rel => exact ⟨_, (decide ((rd l1 0) < 0)), sK, H', ⟨by have := HK1.out; first | omega | exact Nat.le_refl _⟩, ⟨by (with_reducible repeat (first | apply Kd.S_alloc | apply Kd.S_drewN | apply Kd.S_drew)); exact Kd.S_mono HO321.out (fun _ hk => trivial)⟩, ⟨bB⟩⟩
        ·rw [if_neg c19] at H
         exact absurd H (by simp)
       ·rw [if_neg c18] at H
        have c18b0 : ((l1.length : Int) == 1) = false := beq_eq_false_iff_ne.mpr c18
        have c18b1 : ((l1.length : Int) != 1) = true := bne_iff_ne.mpr c18
        (first | rw [c18b0] | (simp only [i64_w, i32_w]; rw [c18b0]) | skip)
        have H' := Aside0.mk H
        clear H
        go_wp2
        go_meet
        case rel => exact ⟨_, (false), sK, H', ⟨by have := HK1.out; first | omega | exact Nat.le_refl _⟩, ⟨by (with_reducible repeat (first | apply Kd.S_alloc | apply Kd.S_drewN | apply Kd.S_drew)); exact Kd.S_mono HO321.out (fun _ hk => trivial)⟩, ⟨bB⟩⟩
      case rest =>
       clear HC13
       try clear c1
       try clear p2
       try clear p3
       try clear q3
       try clear hx3
       try clear qi3
       try clear c5
       try clear p6
       try clear c7
       try clear c7b0
       try clear c8
       try clear c8b0
       try clear c9
       try clear c9b0
       try clear c9b1
       try clear c10
       try clear c12
       try clear c12b0
       try clear c12b1
       try clear c13
       try clear c16
       try clear c18
       try clear c18b0
       try clear c18b1
       try clear c19
       try clear c19b0
       try clear c19b1
       try clear hx313_0
       try clear hx323_0
       try clear p2
       try clear p313
       try clear p323
       try clear p6
       try clear q313
       try clear q323
       obtain ⟨kq, x62_12, rfl, HA, HJ12, HO_10, HB⟩ := hcut
       cases kq with
       | zero => exact absurd HA.out (by simp [quaerelaw4_UnifyDeep.j1])
       | succ kj12 =>
        have H := HA.out
        clear HA
        simp only [quaerelaw4_UnifyDeep.j1] at H
        by_cases c20 : x62_12 = true
        ·subst c20
         have H1 : (if t318 = true then (some ((t317.length : Int) == (wrap64 (1 - x8_1)))) else (some false)) = some r := by rw [if_pos rfl] at H; exact H
         clear H
         have H := H1
         clear H1
         by_cases c21 : t318 = true
         ·subst c21
          have H1 : (some ((t317.length : Int) == (wrap64 (1 - x8_1)))) = some r := by rw [if_pos rfl] at H; exact H
          clear H
          have H := H1
          clear H1
          obtain rfl := Option.some.inj H
          obtain ⟨Ao22, co22, eo22⟩ := Kd.S_slice HO_10.out
          subst eo22
          go_wp2
          go_ret
          exact ⟨eK, bB⟩
         ·replace c21 := Bool.eq_false_iff.mpr c21
          subst c21
          have H1 : (some false) = some r := by rw [if_neg (show ¬ (false = true) by decide)] at H; exact H
          clear H
          have H := H1
          clear H1
          obtain rfl := Option.some.inj H
          go_wp2
          go_ret
          exact ⟨eK, bB⟩
        ·replace c20 := Bool.eq_false_iff.mpr c20
         subst c20
         have H1 : (if x8_1 > 0 then (if t318 = true then (some false) else (some ((t317.length : Int) == 0))) else (if t318 = true then (if (t317.length : Int) = 1 then (if 0 < (t317.length : Int) then (if ((rd_T41 t317 0).f0) = (wrap64 (Int.tmod (IntKind.u64.wrap (a2)) 24)) then ((quaerelaw0_SameInts.f kj12 ((rd_T41 t317 0).f1) l1).bind fun t326 => (some t326)) else (some false)) else (none)) else (some false)) else (some ((t317.length : Int) == 0)))) = some r := by rw [if_neg (show ¬ (false = true) by decide)] at H; exact H
         clear H
         have H := H1
         clear H1
         by_cases c23 : x8_1 > 0
         ·rw [if_pos c23] at H
          have c23b0 : decide (0 < x8_1) = true := decide_eq_true c23
          clear c23
          by_cases c24 : t318 = true
          ·subst c24
           have H1 : (some false) = some r := by rw [if_pos rfl] at H; exact H
           clear H
           have H := H1
           clear H1
           obtain rfl := Option.some.inj H
           go_wp2
           go_ret
           exact ⟨eK, bB⟩
          ·replace c24 := Bool.eq_false_iff.mpr c24
           subst c24
           have H1 : (some ((t317.length : Int) == 0)) = some r := by rw [if_neg (show ¬ (false = true) by decide)] at H; exact H
           clear H
           have H := H1
           clear H1
           obtain rfl := Option.some.inj H
           obtain ⟨Ao25, co25, eo25⟩ := Kd.S_slice HO_10.out
           subst eo25
           go_wp2
           go_ret
           exact ⟨eK, bB⟩
         ·rw [if_neg c23] at H
          have c23b0 : decide (0 < x8_1) = false := decide_eq_false c23
          clear c23
          by_cases c26 : t318 = true
          ·subst c26
           have H1 : (if (t317.length : Int) = 1 then (if 0 < (t317.length : Int) then (if ((rd_T41 t317 0).f0) = (wrap64 (Int.tmod (IntKind.u64.wrap (a2)) 24)) then ((quaerelaw0_SameInts.f kj12 ((rd_T41 t317 0).f1) l1).bind fun t326 => (some t326)) else (some false)) else (none)) else (some false)) = some r := by rw [if_pos rfl] at H; exact H
           clear H
           have H := H1
           clear H1
           by_cases c27 : (t317.length : Int) = 1
           ·rw [if_pos c27] at H
            have c27b0 : ((t317.length : Int) == 1) = true := beq_iff_eq.mpr c27
            have c27b1 : ((t317.length : Int) != 1) = false := bne_eq_false_iff_eq.mpr c27
            clear c27
            by_cases c28 : 0 < (t317.length : Int)
            ·rw [if_pos c28] at H
             have c28b0 : decide (0 < (t317.length : Int)) = true := decide_eq_true c28
             have c28b1 : decide (0 < t317.length) = true := decide_eq_true (by omega)
             clear c28
             by_cases c29 : ((rd_T41 t317 0).f0) = (wrap64 (Int.tmod (IntKind.u64.wrap (a2)) 24))
             ·rw [if_pos c29] at H
              have c29b0 : (((rd_T41 t317 0).f0) == (wrap64 (Int.tmod (IntKind.u64.wrap (a2)) 24))) = true := beq_iff_eq.mpr c29
              have c29b1 : (((rd_T41 t317 0).f0) != (wrap64 (Int.tmod (IntKind.u64.wrap (a2)) 24))) = false := bne_eq_false_iff_eq.mpr c29
              clear c29
              replace H := Option.bind_eq_some_iff.mp H
              obtain ⟨t326, A300, H⟩ := H
              replace H : (some t326) = some r := H
              have A30 := Aside0.mk A300
              clear A300
              obtain rfl := Option.some.inj H
              obtain ⟨Ao31, co31, eo31⟩ := Kd.S_slice HO_10.out
              subst eo31
              have p324 : 0 ≤ (0 : Int) := (by omega)
              have q324 : 0 < (t317.length : Int) := of_decide_eq_true aK
              obtain ⟨ad324, A324_1, c324_1, e324, hx324_0, hx324_1, hl324_1, hi324_1⟩ := at_T41 (Kd.S_reads' HO_10.out).2.2 0 p324 q324
              cases e324
              obtain ⟨ce324, hce324, hMe324, hcc324⟩ := Kd.S_get HO_10.out z41 0 p324 (by first | exact q324 | exact of_decide_eq_true aK | (have e_ := (Kd.S_reads' HO_10.out).1; omega))
              obtain ⟨ve324_1, rfl, ge324_1⟩ := k41_openM hMe324
              have hv324_1 := hcc324 1 _ rfl
              rw [add_field _ _ 1 (by omega)] at hv324_1
              replace hv324_1 := Option.some.inj (hv324_1.symm.trans hx324_1)
              rw [hv324_1] at ge324_1
              have HL324_1 := Aside0.mk (show Kd.R (Kd.int .i64) 3 _ _ _ _ ((rd_T41 t317 0).f1) from ge324_1)
              clear hv324_1 ge324_1 hcc324 hce324
              have qi324 : (0 < t317.length) = True := eq_true (by omega)
              (try rw [show ((0 : Int)).toNat = 0 from rfl] at hx324_0)
              (try rw [show 0 * 2 = 0 from rfl] at hx324_0)
              (try rw [Addr.add_zero'] at hx324_0)
              (try rw [show ((0 : Int)).toNat = 0 from rfl] at hx324_1)
              (try rw [show 0 * 2 = 0 from rfl] at hx324_1)
              (try rw [Addr.add_zero'] at hx324_1)
              have HR324_1 := Aside0.mk hi324_1
              have HC324_1 := Aside0.mk hl324_1
              clear hi324_1 hl324_1
              replace p324 := eq_true p324
              replace q324 := eq_true q324
              have p325 : 0 ≤ (0 : Int) := (by omega)
              have q325 : 0 < (t317.length : Int) := of_decide_eq_true aK
              obtain ⟨ad325, A325_1, c325_1, e325, hx325_0, hx325_1, hl325_1, hi325_1⟩ := at_T41 (Kd.S_reads' HO_10.out).2.2 0 p325 q325
              obtain rfl : ad324 = ad325 := (by injection e325)
              obtain ⟨ce325, hce325, hMe325, hcc325⟩ := Kd.S_get HO_10.out z41 0 p325 (by first | exact q325 | exact of_decide_eq_true aK | (have e_ := (Kd.S_reads' HO_10.out).1; omega))
              obtain ⟨ve325_1, rfl, ge325_1⟩ := k41_openM hMe325
              have hv325_1 := hcc325 1 _ rfl
              rw [add_field _ _ 1 (by omega)] at hv325_1
              replace hv325_1 := Option.some.inj (hv325_1.symm.trans hx325_1)
              rw [hv325_1] at ge325_1
              have HL325_1 := Aside0.mk (show Kd.R (Kd.int .i64) 3 _ _ _ _ ((rd_T41 t317 0).f1) from ge325_1)
              clear hv325_1 ge325_1 hcc325 hce325
              have qi325 : (0 < t317.length) = True := eq_true (by omega)
              (try rw [show ((0 : Int)).toNat = 0 from rfl] at hx325_0)
              (try rw [show 0 * 2 = 0 from rfl] at hx325_0)
              (try rw [Addr.add_zero'] at hx325_0)
              (try rw [show ((0 : Int)).toNat = 0 from rfl] at hx325_1)
              (try rw [show 0 * 2 = 0 from rfl] at hx325_1)
              (try rw [Addr.add_zero'] at hx325_1)
              have HR325_1 := Aside0.mk hi325_1
              have HC325_1 := Aside0.mk hl325_1
              clear hi325_1 hl325_1
              replace p325 := eq_true p325
              replace q325 := eq_true q325
              have ea_ := Option.some.inj (hx324_1.symm.trans hx325_1)
              injection ea_ with ea_ en_ ec_
              subst ea_
              subst ec_
              clear en_
              go_wp2_with (first | (go_at_call 18; (with_reducible refine (quaerelaw0_SameInts.calls kj12 _ _ ((rd_T41 t317 0).f1) _ _ l1 t326 _ ?side1 ?side2 ?side3 ?side4 A30.out).mono ?_); (case side1 => repeat (first | exact (by repeat (first | (with_reducible exact HR325_1.out) | (with_reducible refine Kd.C_alloc ?_ _) | (with_reducible refine Kd.C_drewN ?_ _) | (with_reducible refine Kd.C_drew ?_) | exact HR325_1.out)) | (with_reducible refine Kd.C_alloc ?_ _) | (with_reducible refine Kd.C_drewN ?_ _) | (with_reducible refine Kd.C_drew ?_))); (case side2 => exact HC325_1.out); (case side3 => exact cK (Kd.C_below HR1.out HB.out)); (case side4 => exact HC1.out); rintro e w' ⟨rfl, ⟨nd, rfl⟩⟩))
              go_ret
              exact ⟨eK, bB⟩
             ·rw [if_neg c29] at H
              have c29b0 : (((rd_T41 t317 0).f0) == (wrap64 (Int.tmod (IntKind.u64.wrap (a2)) 24))) = false := beq_eq_false_iff_ne.mpr c29
              have c29b1 : (((rd_T41 t317 0).f0) != (wrap64 (Int.tmod (IntKind.u64.wrap (a2)) 24))) = true := bne_iff_ne.mpr c29
              obtain rfl := Option.some.inj H
              obtain ⟨Ao32, co32, eo32⟩ := Kd.S_slice HO_10.out
              subst eo32
              have p324 : 0 ≤ (0 : Int) := (by omega)
              have q324 : 0 < (t317.length : Int) := of_decide_eq_true aK
              obtain ⟨ad324, A324_1, c324_1, e324, hx324_0, hx324_1, hl324_1, hi324_1⟩ := at_T41 (Kd.S_reads' HO_10.out).2.2 0 p324 q324
              cases e324
              obtain ⟨ce324, hce324, hMe324, hcc324⟩ := Kd.S_get HO_10.out z41 0 p324 (by first | exact q324 | exact of_decide_eq_true aK | (have e_ := (Kd.S_reads' HO_10.out).1; omega))
              obtain ⟨ve324_1, rfl, ge324_1⟩ := k41_openM hMe324
              have hv324_1 := hcc324 1 _ rfl
              rw [add_field _ _ 1 (by omega)] at hv324_1
              replace hv324_1 := Option.some.inj (hv324_1.symm.trans hx324_1)
              rw [hv324_1] at ge324_1
              have HL324_1 := Aside0.mk (show Kd.R (Kd.int .i64) 3 _ _ _ _ ((rd_T41 t317 0).f1) from ge324_1)
              clear hv324_1 ge324_1 hcc324 hce324
              have qi324 : (0 < t317.length) = True := eq_true (by omega)
              (try rw [show ((0 : Int)).toNat = 0 from rfl] at hx324_0)
              (try rw [show 0 * 2 = 0 from rfl] at hx324_0)
              (try rw [Addr.add_zero'] at hx324_0)
              (try rw [show ((0 : Int)).toNat = 0 from rfl] at hx324_1)
              (try rw [show 0 * 2 = 0 from rfl] at hx324_1)
              (try rw [Addr.add_zero'] at hx324_1)
              have HR324_1 := Aside0.mk hi324_1
              have HC324_1 := Aside0.mk hl324_1
              clear hi324_1 hl324_1
              replace p324 := eq_true p324
              replace q324 := eq_true q324
              go_wp2
              go_ret
              exact ⟨eK, bB⟩
            ·rw [if_neg c28] at H
             exact absurd H (by simp)
           ·rw [if_neg c27] at H
            have c27b0 : ((t317.length : Int) == 1) = false := beq_eq_false_iff_ne.mpr c27
            have c27b1 : ((t317.length : Int) != 1) = true := bne_iff_ne.mpr c27
            obtain rfl := Option.some.inj H
            obtain ⟨Ao33, co33, eo33⟩ := Kd.S_slice HO_10.out
            subst eo33
            go_wp2
            go_ret
            exact ⟨eK, bB⟩
          ·replace c26 := Bool.eq_false_iff.mpr c26
           subst c26
           have H1 : (some ((t317.length : Int) == 0)) = some r := by rw [if_neg (show ¬ (false = true) by decide)] at H; exact H
           clear H
           have H := H1
           clear H1
           obtain rfl := Option.some.inj H
           obtain ⟨Ao34, co34, eo34⟩ := Kd.S_slice HO_10.out
           subst eo34
           go_wp2
           go_ret
           exact ⟨eK, bB⟩
     ·rw [if_neg c12] at H
      have c12b0 : (t322 == 0) = false := beq_eq_false_iff_ne.mpr c12
      have c12b1 : (t322 != 0) = true := bne_iff_ne.mpr c12
      by_cases c35 : (t317.length : Int) = 0
      ·rw [if_pos c35] at H
       have c35b0 : ((t317.length : Int) == 0) = true := beq_iff_eq.mpr c35
       have c35b1 : ((t317.length : Int) != 0) = false := bne_eq_false_iff_eq.mpr c35
       clear c35
       obtain rfl := Option.some.inj H
       go_wp2_with (first | ((with_reducible refine gate_dst (N := 38) rfl ?_); (try (refine gate_guard (by rfl) ?_; dsimp only)); refine Kd.R_lit (Kd.int .i64) _ 3 ?hg (N := 38) ?hd (xs := ([wrap64 ((-1) - (wrap64 (Int.tmod (IntKind.u64.wrap (a2)) 24)))] : List Int)) (inner := [.int .i64 (wrap64 ((-1) - (wrap64 (Int.tmod (IntKind.u64.wrap (a2)) 24))))]) (ok := fun _ => True) (okp := fun _ => True) ?hr ?hp (fun _ hk => hk) trivial (Below.refl _ _) (Nat.le_refl _) (by simp) ?_; (case hd => rfl); (case hg => rfl); (case hr => first | (go_simp; done) | (go_simp; rfl)); (case hp => exact (Reps.one (show Kd.M (Kd.int .i64) _ _ _ (wrap64 ((-1) - (wrap64 (Int.tmod (IntKind.u64.wrap (a2)) 24)))) [.int .i64 (wrap64 ((-1) - (wrap64 (Int.tmod (IntKind.u64.wrap (a2)) 24))))] from rfl) (Reps.none _ _))); intro v315 w36 ho37 hb hg_ hnew_; clear hg_ hnew_; (first | rw [← Ny314.out] at ho37 | (simp only [Int.reduceToNat] at ho37; rw [← Ny314.out] at ho37)); have n0_ := Aside0.mk (Kd.R_lower ho37 (below_size bB)); have n1_ := Aside0.mk (below_step bB hb); clear HB; have HO316 := n0_; have HB := n1_; clear n0_ n1_; clear hb ho37; obtain ⟨Ao38, co38, eo38⟩ := Kd.R_slice HO316.out; subst eo38) | ((with_reducible refine gate_callee (f := 10) rfl ?_); refine goesL_ (some 40) rfl rfl Tryd.func10 (by kernel_rfl) rfl #[.slice A0 l0.length c0, .slice Ao38 y314.length co38, .slice A1 l1.length c1] rfl mA ?_; (with_reducible refine (unify_Unify.calls (hG := gK) _ _ l0 _ _ y314 _ _ l1 t317 t318 t319 _ ?side1 ?side2 ?side3 ?side4 ?side5 ?side6 A10.out).mono ?_); (case side1 => exact cK (Kd.C_below HR0.out HB.out)); (case side2 => exact HC0.out); (case side3 => exact cK ((Kd.R_reads' HO316.out).2.2)); (case side4 => exact (Kd.R_reads' HO316.out).2.1); (case side5 => exact cK (Kd.C_below HR1.out HB.out)); (case side6 => exact HC1.out); rintro e w39 ⟨v320, rfl, ho0, hb⟩; refine ⟨_, rfl, ?_⟩; have n0_ := Aside0.mk (Kd.R_below (rK HO316) hb); have n1_ := Aside0.mk (Kd.S_lower (Kd.S_new' ho0 (Kd.R_lt (rK HO316))) (below_size bB)); have n2_ := Aside0.mk (below_step bB hb); clear HO316; clear HB; have HO316 := n0_; have HO321 := n1_; have HB := n2_; clear n0_ n1_ n2_; (try clear hb); (try clear hb2); (try clear hk); (try clear hi); (try clear ho0)) | ((with_reducible refine gate_callee (f := 13) rfl ?_); refine goesL_ (some 45) rfl rfl Tryd.func13 (by kernel_rfl) rfl #[.int .i64 t319] rfl mA ?_; (with_reducible refine (quaerelaw0_Num.calls t319 t322 _ A11.out).mono ?_); rintro e w' ⟨rfl, ⟨nd, rfl⟩⟩; refine ⟨_, rfl, ?_⟩; obtain ⟨Ao40, co40, eo40⟩ := Kd.S_slice HO321.out; subst eo40))
       go_ret
       exact ⟨eK, bB⟩
      ·rw [if_neg c35] at H
       have c35b0 : ((t317.length : Int) == 0) = false := beq_eq_false_iff_ne.mpr c35
       have c35b1 : ((t317.length : Int) != 0) = true := bne_iff_ne.mpr c35
       have c35b2 : ¬ (t317 = []) := fun h_ => c35 (by rw [h_]; rfl)
       obtain rfl := Option.some.inj H
       go_wp2_with (first | ((with_reducible refine gate_dst (N := 38) rfl ?_); (try (refine gate_guard (by rfl) ?_; dsimp only)); refine Kd.R_lit (Kd.int .i64) _ 3 ?hg (N := 38) ?hd (xs := ([wrap64 ((-1) - (wrap64 (Int.tmod (IntKind.u64.wrap (a2)) 24)))] : List Int)) (inner := [.int .i64 (wrap64 ((-1) - (wrap64 (Int.tmod (IntKind.u64.wrap (a2)) 24))))]) (ok := fun _ => True) (okp := fun _ => True) ?hr ?hp (fun _ hk => hk) trivial (Below.refl _ _) (Nat.le_refl _) (by simp) ?_; (case hd => rfl); (case hg => rfl); (case hr => first | (go_simp; done) | (go_simp; rfl)); (case hp => exact (Reps.one (show Kd.M (Kd.int .i64) _ _ _ (wrap64 ((-1) - (wrap64 (Int.tmod (IntKind.u64.wrap (a2)) 24)))) [.int .i64 (wrap64 ((-1) - (wrap64 (Int.tmod (IntKind.u64.wrap (a2)) 24))))] from rfl) (Reps.none _ _))); intro v315 w41 ho42 hb hg_ hnew_; clear hg_ hnew_; (first | rw [← Ny314.out] at ho42 | (simp only [Int.reduceToNat] at ho42; rw [← Ny314.out] at ho42)); have n0_ := Aside0.mk (Kd.R_lower ho42 (below_size bB)); have n1_ := Aside0.mk (below_step bB hb); clear HB; have HO316 := n0_; have HB := n1_; clear n0_ n1_; clear hb ho42; obtain ⟨Ao43, co43, eo43⟩ := Kd.R_slice HO316.out; subst eo43) | ((with_reducible refine gate_callee (f := 10) rfl ?_); refine goesL_ (some 40) rfl rfl Tryd.func10 (by kernel_rfl) rfl #[.slice A0 l0.length c0, .slice Ao43 y314.length co43, .slice A1 l1.length c1] rfl mA ?_; (with_reducible refine (unify_Unify.calls (hG := gK) _ _ l0 _ _ y314 _ _ l1 t317 t318 t319 _ ?side1 ?side2 ?side3 ?side4 ?side5 ?side6 A10.out).mono ?_); (case side1 => exact cK (Kd.C_below HR0.out HB.out)); (case side2 => exact HC0.out); (case side3 => exact cK ((Kd.R_reads' HO316.out).2.2)); (case side4 => exact (Kd.R_reads' HO316.out).2.1); (case side5 => exact cK (Kd.C_below HR1.out HB.out)); (case side6 => exact HC1.out); rintro e w44 ⟨v320, rfl, ho0, hb⟩; refine ⟨_, rfl, ?_⟩; have n0_ := Aside0.mk (Kd.R_below (rK HO316) hb); have n1_ := Aside0.mk (Kd.S_lower (Kd.S_new' ho0 (Kd.R_lt (rK HO316))) (below_size bB)); have n2_ := Aside0.mk (below_step bB hb); clear HO316; clear HB; have HO316 := n0_; have HO321 := n1_; have HB := n2_; clear n0_ n1_ n2_; (try clear hb); (try clear hb2); (try clear hk); (try clear hi); (try clear ho0)) | ((with_reducible refine gate_callee (f := 13) rfl ?_); refine goesL_ (some 45) rfl rfl Tryd.func13 (by kernel_rfl) rfl #[.int .i64 t319] rfl mA ?_; (with_reducible refine (quaerelaw0_Num.calls t319 t322 _ A11.out).mono ?_); rintro e w' ⟨rfl, ⟨nd, rfl⟩⟩; refine ⟨_, rfl, ?_⟩; obtain ⟨Ao45, co45, eo45⟩ := Kd.S_slice HO321.out; subst eo45))
       go_ret
       exact ⟨eK, bB⟩
 ·replace c5 := Bool.eq_false_iff.mpr c5
  subst c5
  have H1 : (some false) = some r := by rw [if_neg (show ¬ (false = true) by decide)] at H; exact H
  clear H
  have H := H1
  clear H1
  obtain rfl := Option.some.inj H
  go_enter Tryd.func5, Tryd.ntmps5
  go_wp2_with (first | ((with_reducible refine gate_callee (f := 16) rfl ?_); refine goesL_ (some 13) rfl rfl Tryd.func16 (by kernel_rfl) rfl #[] rfl mA ?_; (with_reducible refine (quaerelaw4_awake.calls (hG := gK) k  false _ A4.out).mono ?_); rintro e w46 ⟨rfl, hb⟩; refine ⟨_, rfl, ?_⟩; have n0_ := Aside0.mk (below_step bB hb); clear HB; have HB := n0_; clear n0_; (try clear hb); (try clear hb2); (try clear hk); (try clear hi)))
  go_ret
  exact ⟨eK, bB⟩

end Go.Proofs.YtaegdhpcnpojnaaDoor.PU
