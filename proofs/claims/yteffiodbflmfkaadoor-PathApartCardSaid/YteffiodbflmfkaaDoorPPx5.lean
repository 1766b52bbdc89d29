-- written by a program of this session's (wip/tools/pp.py), after the kit's print
import Derived.Test.YteffiodbflmfkaaDoorPPx0
import Derived.Test.YteffiodbflmfkaaDoorPPx4
namespace Go.Proofs.YteffiodbflmfkaaDoor.PP
open Go.RowKit Go.Proofs.YteffiodbflmfkaaDoorW.PrintWords Go.Proofs.YteffiodbflmfkaaDoorW.PrintLast Go.Proofs.YteffiodbflmfkaaDoorW.PrintMore
attribute [local go_sem] jump_ret jumpE_ret max2_int min2_int max_two min_two max_three min_three max_four min_four   -- for this text's walks alone
set_option linter.unusedVariables false
set_option linter.unusedSimpArgs false

theorem own_any (A : Option Addr) (n c : Nat) : (Value.slice A n c).ownBlock = A.map (·.block) := by cases A <;> rfl
/-! ### path_paths: function 25 -/
mutual
def path_paths.l0 : Nat → List (S59) → List Int → List (List Int) → List Int → List Int → Int → Option ((List (List Int)))
 | 0, _, _, _, _, _, _ => none
 | k + 1, x0, x1, x5, x6, x7, x8 => if x8 = (x1.length : Int) then (some x5) else ((slices_Clone_int_int.f x6).bind fun t159 => (if 0 ≤ x8 then (if x8 < (x1.length : Int) then ((some (([mx (rd x1 x8) (-1)] : List Int) : List Int)).bind fun y163 => (if t159.length + y163.length < 17592186044416 then ((some (([(t159 ++ y163)] : List (List Int)) : List (List Int))).bind fun y169 => (if x5.length + y169.length < 5864062014805 then ((some (x5 ++ y169 : List (List Int))).bind fun y172 => ((path_arity.f x0 (rd x1 x8)).bind fun t176 => (if t176 > 0 then ((some (([0] : List Int) : List Int)).bind fun y177 => (if x6.length + y177.length < 17592186044416 then ((some (([wrap64 (t176 - 1)] : List Int) : List Int)).bind fun y183 => (if x7.length + y183.length < 17592186044416 then (path_paths.l0 k x0 x1 y172 (x6 ++ y177) (x7 ++ y183) (wrap64 (x8 + 1))) else (none))) else (none))) else (path_paths.l1 k x0 x1 y172 x6 x7 (wrap64 (x8 + 1)))))) else (none))) else (none))) else (none)) else (none)))
def path_paths.l1 : Nat → List (S59) → List Int → List (List Int) → List Int → List Int → Int → Option ((List (List Int)))
 | 0, _, _, _, _, _, _ => none
 | k + 1, x0, x1, x5, x6, x7, x8 => if (x7.length : Int) = 0 then (path_paths.l0 k x0 x1 x5 x6 x7 x8) else (if 0 ≤ (wrap64 ((x7.length : Int) - 1)) then (if (wrap64 ((x7.length : Int) - 1)) < (x7.length : Int) then (if (rd x7 (wrap64 ((x7.length : Int) - 1))) = 0 then (if (wrap64 ((x7.length : Int) - 1)) ≤ (x6.length : Int) then (if (wrap64 ((x7.length : Int) - 1)) ≤ (x7.length : Int) then (path_paths.l1 k x0 x1 x5 (x6.take ((wrap64 ((x7.length : Int) - 1)) : Int).toNat) (x7.take ((wrap64 ((x7.length : Int) - 1)) : Int).toNat) x8) else (none)) else (none)) else (if (wrap64 ((x7.length : Int) - 1)) < (x6.length : Int) then (path_paths.l0 k x0 x1 x5 (x6.set ((wrap64 ((x7.length : Int) - 1)) : Int).toNat (wrap64 ((rd x6 (wrap64 ((x7.length : Int) - 1))) + 1))) (x7.set ((wrap64 ((x7.length : Int) - 1)) : Int).toNat (wrap64 ((rd x7 (wrap64 ((x7.length : Int) - 1))) - 1))) x8) else (none))) else (none)) else (none))
end
def path_paths.f (k : Nat) (l0 : List (S59)) (l1 : List Int) : Option ((List (List Int))) := path_paths.l0 k l0 l1 ([] : List (List Int)) ([] : List Int) ([] : List Int) 0
theorem path_paths.mono_l : ∀ k, (∀ y0 y1 y2 y3 y4 y5, LeO (path_paths.l0 k y0 y1 y2 y3 y4 y5) (path_paths.l0 (k + 1) y0 y1 y2 y3 y4 y5)) ∧ (∀ y0 y1 y2 y3 y4 y5, LeO (path_paths.l1 k y0 y1 y2 y3 y4 y5) (path_paths.l1 (k + 1) y0 y1 y2 y3 y4 y5))
 | 0 => ⟨fun _ _ _ _ _ _ r h => by simp [path_paths.l0] at h, fun _ _ _ _ _ _ r h => by simp [path_paths.l1] at h⟩
 | k + 1 => by
  obtain ⟨ih0, ih1⟩ := path_paths.mono_l k
  refine ⟨?_, ?_⟩
  ·intro y0 y1 y2 y3 y4 y5
   unfold path_paths.l0
   repeat' first
   | (with_reducible exact ih0 _ _ _ _ _ _)
   | (with_reducible exact ih1 _ _ _ _ _ _)
   | (with_reducible exact LeO.refl _)
   | (with_reducible exact LeO.none _)
   | (with_reducible refine LeO.ite ?_ ?_)
   | (with_reducible refine LeO.bind ?_ (fun _ => ?_))
   | exact ih0 _ _ _ _ _ _
   | exact ih1 _ _ _ _ _ _
   | exact LeO.none _
   | refine LeO.ite ?_ ?_
   | refine LeO.bind ?_ (fun _ => ?_)
  ·intro y0 y1 y2 y3 y4 y5
   unfold path_paths.l1
   repeat' first
   | (with_reducible exact ih0 _ _ _ _ _ _)
   | (with_reducible exact ih1 _ _ _ _ _ _)
   | (with_reducible exact LeO.refl _)
   | (with_reducible exact LeO.none _)
   | (with_reducible refine LeO.ite ?_ ?_)
   | (with_reducible refine LeO.bind ?_ (fun _ => ?_))
   | exact ih0 _ _ _ _ _ _
   | exact ih1 _ _ _ _ _ _
   | exact LeO.none _
   | refine LeO.ite ?_ ?_
   | refine LeO.bind ?_ (fun _ => ?_)
theorem path_paths.mono : ∀ a0 a1 k, LeO (path_paths.f k a0 a1) (path_paths.f (k + 1) a0 a1) := by
 intro a0 a1 k
 obtain ⟨ih0, ih1⟩ := path_paths.mono_l k
 unfold path_paths.f
 repeat' first
   | (with_reducible exact ih0 _ _ _ _ _ _)
   | (with_reducible exact ih1 _ _ _ _ _ _)
   | (with_reducible exact LeO.refl _)
   | (with_reducible exact LeO.none _)
   | (with_reducible refine LeO.ite ?_ ?_)
   | (with_reducible refine LeO.bind ?_ (fun _ => ?_))
   | exact ih0 _ _ _ _ _ _
   | exact ih1 _ _ _ _ _ _
   | exact LeO.none _
   | refine LeO.ite ?_ ?_
   | refine LeO.bind ?_ (fun _ => ?_)
def path_paths.T6 : Bool × List (List Nat × List Nat) := (true, [([], []), ([], []), ([1], [1]), ([], []), ([], []), ([3, 4], [3, 4]), ([5], [5]), ([6], [6]), ([7], [7]), ([2, 8, 2], [2, 8]), ([9], [9]), ([0, 10, 9], [0, 10]), ([11, 11, 0, 1, 2, 3, 4, 5, 6, 7, 8, 9, 10, 11], [0, 11])])
def path_paths.B6 : List Nat := [0, 0, 2, 0, 0, 24, 56, 120, 248, 510, 1022, 2047, 4095]
theorem path_paths.tab6 : rtab .any (opsOf Tryd.f25 6) = path_paths.T6 := by kernel_rfl
theorem path_paths.bits6 : waitsOk path_paths.T6.2 path_paths.B6 = true := by kernel_rfl
def path_paths.T15 : Bool × List (List Nat × List Nat) := (true, [([], []), ([], []), ([0, 1], [0, 1]), ([], []), ([], []), ([3, 4], [3, 4]), ([2, 0, 1, 2], [0, 2]), ([5, 6, 0, 1, 2, 3, 4, 5, 6], [3, 5])])
def path_paths.B15 : List Nat := [0, 0, 3, 0, 0, 24, 7, 127]
theorem path_paths.tab15 : rtab .any (opsOf Tryd.f25 15) = path_paths.T15 := by kernel_rfl
theorem path_paths.bits15 : waitsOk path_paths.T15.2 path_paths.B15 = true := by kernel_rfl
set_option maxHeartbeats 8000000 in
set_option maxRecDepth 100000 in
theorem path_paths.calls (k : Nat) (A0 : Option Addr) (c0 : Nat) (l0 : List (S59)) (A1 : Option Addr) (c1 : Nat) (l1 : List Int) (r : List (List Int)) (w : World) (hr0 : Kd.C k59 w A0 l0.length l0) (hc0 : l0.length ≤ c0) (hr1 : Kd.C (Kd.int .i64) w A1 l1.length l1) (hc1 : l1.length ≤ c1) (h : path_paths.f k l0 l1 = some r) :
  Calls Tryd.prog 25 #[.slice A0 l0.length c0, .slice A1 l1.length c1] w fun e w' => ∃ v0_ : Value, e = .returned (v0_) ∧ Kd.N (Kd.slice 3 (Kd.int .i64)) 23 w' w.heap.size (fun k_ => (w.heap.size ≤ k_)) v0_ r ∧ Below w.heap.size w w' := by
 have HR0 := Aside0.mk hr0
 have HC0 := Aside0.mk hc0
 clear hr0 hc0
 have HR1 := Aside0.mk hr1
 have HC1 := Aside0.mk hc1
 clear hr1 hc1
 have HB := Aside0.mk (Below.refl w.heap.size w)
 have H : (path_paths.l0 k l0 l1 ([] : List (List Int)) ([] : List Int) ([] : List Int) 0) = some r := h
 clear h
 have H' := Aside0.mk H
 clear H
 go_enter Tryd.func25, Tryd.ntmps25
 go_wp2
 refine wp_scope_two 0 1 (by rfl) (by rfl) ?_
 go_wp2
 go_step3
 go_step
 go_step
 refine wp_jumped2_outer 0 1 (fun kq a' w' => ∃ u2 u3 u4 u5 u6 u7 u8 u9 u10 u11 u12 u13 u14 u15 u16 u17 u18 u19 u20 u21 u22 u23 u24 u25 u26 u27 u28 u29 u30 u31 u32 u33 u34 u35 u36 u37 u38 u39 u40 u41 u42 u43 u44 u45 u46 u47 u48 u49 u50 u51 u52 u53 u54 u55 u56 u57 u58 u59 u60 u61 u62 u63 u64 u65 u66 u67 u68 u69 u70 u71 u72 u73 u74 u75 u76 : Value, (∃ (x5_1 : List (List Int)) (x6_1 : List Int) (x7_1 : List Int) (x8_1 : Int), u8 = .int .i64 x8_1 ∧ Aside0 (path_paths.l0 kq l0 l1 x5_1 x6_1 x7_1 x8_1 = some r) ∧ Aside0 (kq ≤ k) ∧ Aside0 (Kd.N (Kd.slice 3 (Kd.int .i64)) 23 w' w.heap.size (fun k_ => (w.heap.size ≤ k_) ∧ some k_ ≠ (u6 : Value).ownBlock ∧ some k_ ≠ (u7 : Value).ownBlock) u5 x5_1) ∧ Aside0 (Kd.R (Kd.int .i64) 3 w' w.heap.size (fun k_ => (w.heap.size ≤ k_) ∧ some k_ ≠ (u7 : Value).ownBlock) u6 x6_1) ∧ Aside0 (Kd.R (Kd.int .i64) 3 w' w.heap.size (fun k_ => (w.heap.size ≤ k_) ∧ some k_ ≠ (u6 : Value).ownBlock) u7 x7_1) ∧ Aside0 (Below w.heap.size w w')) ∧ a' = ⟨#[.slice A0 l0.length c0, .slice A1 l1.length c1, u2, u3, u4, u5, u6, u7, u8, u9, u10, u11, u12, u13, u14, u15, u16, u17, u18, u19, u20, u21, u22, u23, u24, u25, u26, u27, u28, u29, u30, u31, u32, u33, u34, u35, u36, u37, u38, u39, u40, u41, u42, u43, u44, u45, u46, u47, u48, u49, u50, u51, u52, u53, u54, u55, u56, u57, u58, u59, u60, u61, u62, u63, u64, u65, u66, u67, u68, u69, u70, u71, u72, u73, u74, u75, u76], []⟩) k ?_ ?_
 ·(repeat apply Exists.intro); refine ⟨?_, rfl⟩
  exact ⟨(([] : List (List Int))), (([] : List Int)), (([] : List Int)), (0), sK, H', ⟨Nat.le_refl _⟩, ⟨by first | exact Kd.S_nil _ _ _ _ _ | exact Kd.N_nil _ _ _ _ _ | exact Kd.V_nil _ _ _ _ _ | exact Kd.Q_nil _ _ _ _ _ | exact Kd.R_nil _ _ _ _ _⟩, ⟨by first | exact Kd.R_nil _ _ _ _ _ | exact Kd.N_nil _ _ _ _ _ | exact Kd.V_nil _ _ _ _ _ | exact Kd.Q_nil _ _ _ _ _ | exact Kd.S_nil _ _ _ _ _⟩, ⟨by first | exact Kd.R_nil _ _ _ _ _ | exact Kd.N_nil _ _ _ _ _ | exact Kd.V_nil _ _ _ _ _ | exact Kd.Q_nil _ _ _ _ _ | exact Kd.S_nil _ _ _ _ _⟩, ⟨bB⟩⟩
 ·intro gk _ wr hinv
  obtain ⟨u2, u3, u4, u5, u6, u7, u8, u9, u10, u11, u12, u13, u14, u15, u16, u17, u18, u19, u20, u21, u22, u23, u24, u25, u26, u27, u28, u29, u30, u31, u32, u33, u34, u35, u36, u37, u38, u39, u40, u41, u42, u43, u44, u45, u46, u47, u48, u49, u50, u51, u52, u53, u54, u55, u56, u57, u58, u59, u60, u61, u62, u63, u64, u65, u66, u67, u68, u69, u70, u71, u72, u73, u74, u75, u76, hrel, ha⟩ := hinv
  subst ha
  try dsimp only
  intro _ _ _ _
  clear H'
  try clear c1
  try clear c2
  try clear p2
  obtain ⟨x5_1, x6_1, x7_1, x8_1, rfl, HA, HK1, HO_5, HO_6, HO_7, HB⟩ := hrel
  cases gk with
  | zero => exact absurd HA.out (by simp [path_paths.l0])
  | succ k1 =>
   have H := HA.out
   clear HA
   simp only [path_paths.l0] at H
   by_cases c3 : x8_1 = (l1.length : Int)
   ·rw [if_pos c3] at H
    have c3b0 : (x8_1 == (l1.length : Int)) = true := beq_iff_eq.mpr c3
    have c3b1 : (x8_1 != (l1.length : Int)) = false := bne_eq_false_iff_eq.mpr c3
    clear c3
    obtain rfl := Option.some.inj H
    go_wp2
    (try rw [jumpE_ret])
    (try rw [jump_ret])
    go_ret
    exact ⟨_, eK, by (with_reducible repeat (first | apply Kd.N_alloc | apply Kd.N_drewN | apply Kd.N_drew)); exact Kd.N_mono HO_5.out (fun _ hk => hk.1), bB⟩
   ·rw [if_neg c3] at H
    have c3b0 : (x8_1 == (l1.length : Int)) = false := beq_eq_false_iff_ne.mpr c3
    have c3b1 : (x8_1 != (l1.length : Int)) = true := bne_iff_ne.mpr c3
    replace H := Option.bind_eq_some_iff.mp H
    obtain ⟨t159, A40, H⟩ := H
    replace H : (if 0 ≤ x8_1 then (if x8_1 < (l1.length : Int) then ((some (([mx (rd l1 x8_1) (-1)] : List Int) : List Int)).bind fun y163 => (if t159.length + y163.length < 17592186044416 then ((some (([(t159 ++ y163)] : List (List Int)) : List (List Int))).bind fun y169 => (if x5_1.length + y169.length < 5864062014805 then ((some (x5_1 ++ y169 : List (List Int))).bind fun y172 => ((path_arity.f l0 (rd l1 x8_1)).bind fun t176 => (if t176 > 0 then ((some (([0] : List Int) : List Int)).bind fun y177 => (if x6_1.length + y177.length < 17592186044416 then ((some (([wrap64 (t176 - 1)] : List Int) : List Int)).bind fun y183 => (if x7_1.length + y183.length < 17592186044416 then (path_paths.l0 k1 l0 l1 y172 (x6_1 ++ y177) (x7_1 ++ y183) (wrap64 (x8_1 + 1))) else (none))) else (none))) else (path_paths.l1 k1 l0 l1 y172 x6_1 x7_1 (wrap64 (x8_1 + 1)))))) else (none))) else (none))) else (none)) else (none)) = some r := H
    have A4 := Aside0.mk A40
    clear A40
    by_cases c5 : 0 ≤ x8_1
    ·rw [if_pos c5] at H
     have c5b0 : decide (0 ≤ x8_1) = true := decide_eq_true c5
     clear c5
     by_cases c6 : x8_1 < (l1.length : Int)
     ·rw [if_pos c6] at H
      have c6b0 : decide (x8_1 < (l1.length : Int)) = true := decide_eq_true c6
      clear c6
      obtain ⟨ji7, hji7⟩ : ∃ j_ : Int, (mx (rd l1 x8_1) (-1)) = j_ := ⟨_, rfl⟩
      replace H : ((some (([ji7] : List Int) : List Int)).bind fun y163 => (if t159.length + y163.length < 17592186044416 then ((some (([(t159 ++ y163)] : List (List Int)) : List (List Int))).bind fun y169 => (if x5_1.length + y169.length < 5864062014805 then ((some (x5_1 ++ y169 : List (List Int))).bind fun y172 => ((path_arity.f l0 (rd l1 x8_1)).bind fun t176 => (if t176 > 0 then ((some (([0] : List Int) : List Int)).bind fun y177 => (if x6_1.length + y177.length < 17592186044416 then ((some (([wrap64 (t176 - 1)] : List Int) : List Int)).bind fun y183 => (if x7_1.length + y183.length < 17592186044416 then (path_paths.l0 k1 l0 l1 y172 (x6_1 ++ y177) (x7_1 ++ y183) (wrap64 (x8_1 + 1))) else (none))) else (none))) else (path_paths.l1 k1 l0 l1 y172 x6_1 x7_1 (wrap64 (x8_1 + 1)))))) else (none))) else (none))) = some r := by first | (rw [hji7] at H; exact H) | (simp only [hji7] at H ⊢; exact H)
      (try rw [hji7] at A4)
      have hji7_ : (if (rd l1 x8_1) < (-1) then (-1) else (rd l1 x8_1)) = ji7 := hji7
      obtain ⟨y163, hy163⟩ : ∃ y_ : List Int, y_ = (([ji7] : List Int)) := ⟨_, rfl⟩
      replace H : (if t159.length + y163.length < 17592186044416 then ((some (([(t159 ++ y163)] : List (List Int)) : List (List Int))).bind fun y169 => (if x5_1.length + y169.length < 5864062014805 then ((some (x5_1 ++ y169 : List (List Int))).bind fun y172 => ((path_arity.f l0 (rd l1 x8_1)).bind fun t176 => (if t176 > 0 then ((some (([0] : List Int) : List Int)).bind fun y177 => (if x6_1.length + y177.length < 17592186044416 then ((some (([wrap64 (t176 - 1)] : List Int) : List Int)).bind fun y183 => (if x7_1.length + y183.length < 17592186044416 then (path_paths.l0 k1 l0 l1 y172 (x6_1 ++ y177) (x7_1 ++ y183) (wrap64 (x8_1 + 1))) else (none))) else (none))) else (path_paths.l1 k1 l0 l1 y172 x6_1 x7_1 (wrap64 (x8_1 + 1)))))) else (none))) else (none)) = some r := by first | (rw [hy163]; with_reducible exact H) | (have H2_ := (Option.bind_some _ _).symm.trans H; rw [hy163]; with_reducible exact H2_) | (have H2_ := (Option.bind_some _ _).symm.trans H; with_reducible exact H2_) | with_reducible exact H | (rw [hy163]; exact H) | exact H
      have Ny163 := Aside0.mk hy163
      clear hy163
      by_cases c8 : t159.length + y163.length < 17592186044416
      ·rw [if_pos c8] at H
       have LMc8 := Aside0.mk c8
       clear c8
       obtain ⟨y166, hy166⟩ : ∃ y_ : List Int, y_ = (t159 ++ y163) := ⟨_, rfl⟩
       replace H : ((some (([y166] : List (List Int)) : List (List Int))).bind fun y169 => (if x5_1.length + y169.length < 5864062014805 then ((some (x5_1 ++ y169 : List (List Int))).bind fun y172 => ((path_arity.f l0 (rd l1 x8_1)).bind fun t176 => (if t176 > 0 then ((some (([0] : List Int) : List Int)).bind fun y177 => (if x6_1.length + y177.length < 17592186044416 then ((some (([wrap64 (t176 - 1)] : List Int) : List Int)).bind fun y183 => (if x7_1.length + y183.length < 17592186044416 then (path_paths.l0 k1 l0 l1 y172 (x6_1 ++ y177) (x7_1 ++ y183) (wrap64 (x8_1 + 1))) else (none))) else (none))) else (path_paths.l1 k1 l0 l1 y172 x6_1 x7_1 (wrap64 (x8_1 + 1)))))) else (none))) = some r := by first | (rw [hy166]; with_reducible exact H) | (have H2_ := (Option.bind_some _ _).symm.trans H; rw [hy166]; with_reducible exact H2_) | (have H2_ := (Option.bind_some _ _).symm.trans H; with_reducible exact H2_) | with_reducible exact H | (rw [hy166]; exact H) | exact H
       have Ny166 := Aside0.mk hy166
       clear hy166
       obtain ⟨y169, hy169⟩ : ∃ y_ : List (List Int), y_ = (([y166] : List (List Int))) := ⟨_, rfl⟩
       replace H : (if x5_1.length + y169.length < 5864062014805 then ((some (x5_1 ++ y169 : List (List Int))).bind fun y172 => ((path_arity.f l0 (rd l1 x8_1)).bind fun t176 => (if t176 > 0 then ((some (([0] : List Int) : List Int)).bind fun y177 => (if x6_1.length + y177.length < 17592186044416 then ((some (([wrap64 (t176 - 1)] : List Int) : List Int)).bind fun y183 => (if x7_1.length + y183.length < 17592186044416 then (path_paths.l0 k1 l0 l1 y172 (x6_1 ++ y177) (x7_1 ++ y183) (wrap64 (x8_1 + 1))) else (none))) else (none))) else (path_paths.l1 k1 l0 l1 y172 x6_1 x7_1 (wrap64 (x8_1 + 1)))))) else (none)) = some r := by first | (rw [hy169]; with_reducible exact H) | (have H2_ := (Option.bind_some _ _).symm.trans H; rw [hy169]; with_reducible exact H2_) | (have H2_ := (Option.bind_some _ _).symm.trans H; with_reducible exact H2_) | with_reducible exact H | (rw [hy169]; exact H) | exact H
       have Ny169 := Aside0.mk hy169
       clear hy169
       by_cases c9 : x5_1.length + y169.length < 5864062014805
       ·rw [if_pos c9] at H
        have LMc9 := Aside0.mk c9
        clear c9
        obtain ⟨y172, hy172⟩ : ∃ y_ : List (List Int), y_ = (x5_1 ++ y169) := ⟨_, rfl⟩
        replace H : ((path_arity.f l0 (rd l1 x8_1)).bind fun t176 => (if t176 > 0 then ((some (([0] : List Int) : List Int)).bind fun y177 => (if x6_1.length + y177.length < 17592186044416 then ((some (([wrap64 (t176 - 1)] : List Int) : List Int)).bind fun y183 => (if x7_1.length + y183.length < 17592186044416 then (path_paths.l0 k1 l0 l1 y172 (x6_1 ++ y177) (x7_1 ++ y183) (wrap64 (x8_1 + 1))) else (none))) else (none))) else (path_paths.l1 k1 l0 l1 y172 x6_1 x7_1 (wrap64 (x8_1 + 1))))) = some r := by first | (rw [hy172]; with_reducible exact H) | (have H2_ := (Option.bind_some _ _).symm.trans H; rw [hy172]; with_reducible exact H2_) | (have H2_ := (Option.bind_some _ _).symm.trans H; with_reducible exact H2_) | with_reducible exact H | (rw [hy172]; exact H) | exact H
        have Ny172 := Aside0.mk hy172
        clear hy172
        replace H := Option.bind_eq_some_iff.mp H
        obtain ⟨t176, A100, H⟩ := H
        replace H : (if t176 > 0 then ((some (([0] : List Int) : List Int)).bind fun y177 => (if x6_1.length + y177.length < 17592186044416 then ((some (([wrap64 (t176 - 1)] : List Int) : List Int)).bind fun y183 => (if x7_1.length + y183.length < 17592186044416 then (path_paths.l0 k1 l0 l1 y172 (x6_1 ++ y177) (x7_1 ++ y183) (wrap64 (x8_1 + 1))) else (none))) else (none))) else (path_paths.l1 k1 l0 l1 y172 x6_1 x7_1 (wrap64 (x8_1 + 1)))) = some r := H
        have A10 := Aside0.mk A100
        clear A100
        by_cases c11 : t176 > 0
        ·rw [if_pos c11] at H
         have c11b0 : decide (0 < t176) = true := decide_eq_true c11
         clear c11
         obtain ⟨y177, hy177⟩ : ∃ y_ : List Int, y_ = (([0] : List Int)) := ⟨_, rfl⟩
         replace H : (if x6_1.length + y177.length < 17592186044416 then ((some (([wrap64 (t176 - 1)] : List Int) : List Int)).bind fun y183 => (if x7_1.length + y183.length < 17592186044416 then (path_paths.l0 k1 l0 l1 y172 (x6_1 ++ y177) (x7_1 ++ y183) (wrap64 (x8_1 + 1))) else (none))) else (none)) = some r := by first | (rw [hy177]; with_reducible exact H) | (have H2_ := (Option.bind_some _ _).symm.trans H; rw [hy177]; with_reducible exact H2_) | (have H2_ := (Option.bind_some _ _).symm.trans H; with_reducible exact H2_) | with_reducible exact H | (rw [hy177]; exact H) | exact H
         have Ny177 := Aside0.mk hy177
         clear hy177
         by_cases c12 : x6_1.length + y177.length < 17592186044416
         ·rw [if_pos c12] at H
          have LMc12 := Aside0.mk c12
          clear c12
          obtain ⟨y180, hy180⟩ : ∃ y_ : List Int, y_ = (x6_1 ++ y177) := ⟨_, rfl⟩
          replace H : ((some (([wrap64 (t176 - 1)] : List Int) : List Int)).bind fun y183 => (if x7_1.length + y183.length < 17592186044416 then (path_paths.l0 k1 l0 l1 y172 y180 (x7_1 ++ y183) (wrap64 (x8_1 + 1))) else (none))) = some r := by first | (rw [hy180]; with_reducible exact H) | (have H2_ := (Option.bind_some _ _).symm.trans H; rw [hy180]; with_reducible exact H2_) | (have H2_ := (Option.bind_some _ _).symm.trans H; with_reducible exact H2_) | with_reducible exact H | (rw [hy180]; exact H) | exact H
          have Ny180 := Aside0.mk hy180
          clear hy180
          obtain ⟨y183, hy183⟩ : ∃ y_ : List Int, y_ = (([wrap64 (t176 - 1)] : List Int)) := ⟨_, rfl⟩
          replace H : (if x7_1.length + y183.length < 17592186044416 then (path_paths.l0 k1 l0 l1 y172 y180 (x7_1 ++ y183) (wrap64 (x8_1 + 1))) else (none)) = some r := by first | (rw [hy183]; with_reducible exact H) | (have H2_ := (Option.bind_some _ _).symm.trans H; rw [hy183]; with_reducible exact H2_) | (have H2_ := (Option.bind_some _ _).symm.trans H; with_reducible exact H2_) | with_reducible exact H | (rw [hy183]; exact H) | exact H
          have Ny183 := Aside0.mk hy183
          clear hy183
          by_cases c13 : x7_1.length + y183.length < 17592186044416
          ·rw [if_pos c13] at H
           have LMc13 := Aside0.mk c13
           clear c13
           obtain ⟨y186, hy186⟩ : ∃ y_ : List Int, y_ = (x7_1 ++ y183) := ⟨_, rfl⟩
           replace H : (path_paths.l0 k1 l0 l1 y172 y180 y186 (wrap64 (x8_1 + 1))) = some r := by first | (rw [hy186]; with_reducible exact H) | (have H2_ := (Option.bind_some _ _).symm.trans H; rw [hy186]; with_reducible exact H2_) | (have H2_ := (Option.bind_some _ _).symm.trans H; with_reducible exact H2_) | with_reducible exact H | (rw [hy186]; exact H) | exact H
           have Ny186 := Aside0.mk hy186
           clear hy186
           have H' := Aside0.mk H
           clear H
           obtain ⟨Ao14, co14, eo14⟩ := Kd.R_slice HO_6.out
           subst eo14
           obtain ⟨Ao15, co15, eo15⟩ := Kd.N_slice HO_5.out
           subst eo15
           try go_wp2
           have n0_ := Aside0.mk (Kd.N_drew HO_5.out)
           have n1_ := Aside0.mk (Kd.R_drew HO_6.out)
           have n2_ := Aside0.mk (Kd.R_drew HO_7.out)
           have n3_ := Aside0.mk (below_drew1 HB.out)
           clear HO_5 HO_6 HO_7 HB
           have HO_5 := n0_
           have HO_6 := n1_
           have HO_7 := n2_
           have HB := n3_
           clear n0_ n1_ n2_ n3_
           have p162 : 0 ≤ (x8_1 : Int) := of_decide_eq_true aK
           have q162 : x8_1 < (l1.length : Int) := of_decide_eq_true aK
           obtain ⟨ad162, e162, hx162_0⟩ := Kd.at_int HR1.out x8_1 p162 q162
           have hw162_0 := hx162_0
           cases e162
           replace hx162_0 := (HB.out.cell (World.block_lt_of_cell? w _ hx162_0)).trans hx162_0
           replace p162 := eq_true p162
           replace q162 := eq_true q162
           refine start_ (n := 13) (S := fun w' => w'.cell? (ad162.add (x8_1).toNat) = some (.int .i64 (rd l1 x8_1))) (ds := []) #[false, false, false, false, false, false, false, false, false, false, false, false, false] (by kernel_rfl) rfl rfl (((HB.out.cell (World.block_lt_of_cell? w _ hw162_0)).trans hw162_0)) (fun hHeld => ?_); refine with_tabW path_paths.tab6 path_paths.bits6 (fun HT_ HW_ => ?_)
           generalize wr.drew = w16 at HO_5 HO_6 HO_7 HB hx162_0 hHeld ⊢
           refine pure_ (i := 0) (N := some 16) (v := ?_) (a' := ?_) #[true, false, false, false, false, false, false, false, false, false, false, false, false] rfl rfl (any_of HT_.out (by kernel_rfl)) (fun _ _ _ h => h) (Or.inl ⟨by rfl, ?_⟩) ?_ ?_
           rotate_left
           ·intro w'
            go_simp
            with_reducible rfl
           rotate_left
           ·simp only [Act.put, List.setIfInBounds_toArray, List.set_cons_zero, List.set_cons_succ, i64_w, i32_w]
            rfl
           refine pure_ (i := 1) (N := some 17) (v := ?_) (a' := ?_) #[true, true, false, false, false, false, false, false, false, false, false, false, false] rfl rfl (any_of HT_.out (by kernel_rfl)) (fun _ _ _ h => h) (Or.inl ⟨by rfl, ?_⟩) ?_ ?_
           rotate_left
           ·intro w'
            go_simp
            with_reducible rfl
           rotate_left
           ·simp only [Act.put, List.setIfInBounds_toArray, List.set_cons_zero, List.set_cons_succ, i64_w, i32_w]
            rfl
           refine pure_ (i := 3) (N := some 19) (v := ?_) (a' := ?_) #[true, true, false, true, false, false, false, false, false, false, false, false, false] rfl rfl (any_of HT_.out (by kernel_rfl)) (fun _ _ _ h => h) (Or.inl ⟨by rfl, ?_⟩) ?_ ?_
           rotate_left
           ·intro w'
            go_simp
            with_reducible rfl
           rotate_left
           ·simp only [Act.put, List.setIfInBounds_toArray, List.set_cons_zero, List.set_cons_succ, i64_w, i32_w]
            rfl
           refine pure_ (i := 4) (N := some 20) (v := ?_) (a' := ?_) #[true, true, false, true, true, false, false, false, false, false, false, false, false] rfl rfl (any_of HT_.out (by kernel_rfl)) (fun _ _ _ h => h) (Or.inl ⟨by rfl, ?_⟩) ?_ ?_
           rotate_left
           ·intro w'
            go_simp
            with_reducible rfl
           rotate_left
           ·simp only [Act.put, List.setIfInBounds_toArray, List.set_cons_zero, List.set_cons_succ, i64_w, i32_w]
            rfl
           refine pure_ (i := 5) (N := some 21) (v := ?_) (a' := ?_) #[true, true, false, true, true, true, false, false, false, false, false, false, false] rfl rfl (any_of HT_.out (by kernel_rfl)) (fun _ _ _ h => h) (Or.inl ⟨by rfl, ?_⟩) ?_ ?_
           rotate_left
           ·intro w'
            go_simp
            with_reducible rfl
           rotate_left
           ·simp only [Act.put, List.setIfInBounds_toArray, List.set_cons_zero, List.set_cons_succ, i64_w, i32_w]
            rfl
           refine take_ (i := 6) (N := some 22) (v := ?_) (a' := ?_) #[true, true, false, true, true, true, true, false, false, false, false, false, false] rfl rfl (take_ofW HT_.out HW_.out (by kernel_rfl)) (fun _ _ _ h => h) (Or.inl ⟨by rfl, ?_⟩) hHeld ?_ ?_
           rotate_left
           ·intro w' s0
            go_simp
            with_reducible rfl
           rotate_left
           ·simp only [Act.put, List.setIfInBounds_toArray, List.set_cons_zero, List.set_cons_succ, i64_w, i32_w]
            rfl
           refine pure_ (i := 7) (N := some 23) (v := ?_) (a' := ?_) #[true, true, false, true, true, true, true, true, false, false, false, false, false] rfl rfl (any_of HT_.out (by kernel_rfl)) (fun _ _ _ h => h) (Or.inl ⟨by rfl, ?_⟩) ?_ ?_
           rotate_left
           ·intro w'
            go_simp
            with_reducible rfl
           rotate_left
           ·simp only [Act.put, List.setIfInBounds_toArray, List.set_cons_zero, List.set_cons_succ, i64_w, i32_w]
            rfl
           refine join_ (σ := Value × Value) 4 #[true, true, true, true, true, true, true, true, true, false, false, false, false] (fun s_ => [(18, s_.1), (24, s_.2)]) (fun s_ w' => (w'.cell? (ad162.add (x8_1).toNat) = some (.int .i64 (rd l1 x8_1))) ∧ (Kd.R (Kd.int .i64) 3 w' w.heap.size (fun k_ => (w.heap.size ≤ k_) ∧ some k_ ≠ (s_.2 : Value).ownBlock ∧ some k_ ≠ (.slice Ao14 x6_1.length co14 : Value).ownBlock ∧ some k_ ≠ (u7 : Value).ownBlock) s_.1 t159) ∧ (Kd.R (Kd.int .i64) 3 w' w.heap.size (fun k_ => (w.heap.size ≤ k_) ∧ some k_ ≠ (s_.1 : Value).ownBlock ∧ some k_ ≠ (.slice Ao14 x6_1.length co14 : Value).ownBlock ∧ some k_ ≠ (u7 : Value).ownBlock) s_.2 y163) ∧ (Kd.N (Kd.slice 3 (Kd.int .i64)) 23 w' w.heap.size (fun k_ => (w.heap.size ≤ k_) ∧ some k_ ≠ (s_.1 : Value).ownBlock ∧ some k_ ≠ (s_.2 : Value).ownBlock ∧ some k_ ≠ (.slice Ao14 x6_1.length co14 : Value).ownBlock ∧ some k_ ≠ (u7 : Value).ownBlock) (.slice Ao15 x5_1.length co15) x5_1) ∧ (Kd.R (Kd.int .i64) 3 w' w.heap.size (fun k_ => (w.heap.size ≤ k_) ∧ some k_ ≠ (s_.1 : Value).ownBlock ∧ some k_ ≠ (s_.2 : Value).ownBlock ∧ some k_ ≠ (u7 : Value).ownBlock) (.slice Ao14 x6_1.length co14) x6_1) ∧ (Kd.R (Kd.int .i64) 3 w' w.heap.size (fun k_ => (w.heap.size ≤ k_) ∧ some k_ ≠ (s_.1 : Value).ownBlock ∧ some k_ ≠ (s_.2 : Value).ownBlock ∧ some k_ ≠ (.slice Ao14 x6_1.length co14 : Value).ownBlock) u7 x7_1) ∧ (Below w.heap.size w w')) ?_ ?_
           rotate_left
           ·intro hCont
            refine two_ (i := 2) (j := 8) (Ni := some 18) (Nj := some 24) #[true, true, true, true, true, true, true, true, false, false, false, false, false] #[true, true, false, true, true, true, true, true, true, false, false, false, false] rfl rfl rfl rfl (two_of HT_.out (by kernel_rfl)) (by decide) (by decide) (fun K hK => ?_) (fun K hK => ?_)
            ·skip
             refine goes_ Tryd.func38 (by kernel_rfl) rfl #[.slice Ao14 x6_1.length co14] (by rfl) rfl rfl mA ?_
             with_reducible refine (slices_Clone_int_int.calls _ _ x6_1 t159 _ ?side1 ?side2 A4.out).mono ?_
             (case side1 => exact cK ((Kd.R_reads' HO_6.out).2.2))
             (case side2 => exact (Kd.R_reads' HO_6.out).2.1)
             rintro e w17 ⟨v160, rfl, ho0, hb⟩
             refine ⟨_, rfl, ?_⟩
             have n0_ := Aside0.mk (Kd.N_elder' (nK HO_5) (Kd.R_base ho0) hb)
             have n1_ := Aside0.mk (Kd.R_elder' (rK HO_6) (Kd.R_base ho0) hb)
             have n2_ := Aside0.mk (Kd.R_elder' (rK HO_7) (Kd.R_base ho0) hb)
             have n3_ := Aside0.mk (Kd.R_lower (Kd.R_new' (Kd.R_new' (Kd.R_newM (M := fun k_ => (w.heap.size ≤ k_)) ho0 (below_size bB) (fun k_ h_ => h_)) (Kd.R_lt (rK HO_6))) (Kd.R_lt (rK HO_7))) (below_size bB))
             have n4_ := Aside0.mk (below_step bB hb)
             clear HO_5 HO_6 HO_7 HB
             have HO_5 := n0_
             have HO_6 := n1_
             have HO_7 := n2_
             have HO161 := n3_
             have HB := n4_
             clear n0_ n1_ n2_ n3_ n4_
             (try clear hb)
             (try clear hb2)
             (try clear hk)
             (try clear hi)
             (try clear ho0)
             refine hK.out _ _ (((HB.out.cell (World.block_lt_of_cell? w _ hw162_0)).trans hw162_0)) (fun hHeld => ?_)
             clear hK K
             refine norm_ (a' := ?_) ?_ ?_
             rotate_left
             ·show Act.put _ (some 18) _ = _
              simp only [Act.put, List.setIfInBounds_toArray, List.set_cons_zero, List.set_cons_succ, i64_w, i32_w]
              rfl
             refine one_ (i := 8) (N := some 24) #[true, true, true, true, true, true, true, true, true, false, false, false, false] rfl rfl (one_of HT_.out (by kernel_rfl)) (by decide) (fun K hK => ?_)
             refine Kd.R_lit_step (Kd.int .i64) _ 3 ?hg (N := 24) ?hd (xs := ([ji7] : List Int)) (inner := [.int .i64 ji7]) (ok := fun _ => True) (okp := fun _ => True) ?hr ?hp (fun _ hk => hk) trivial (Below.refl _ _) (Nat.le_refl _) (by simp) ?_; (case hd => rfl); (case hg => rfl); (case hr => first | (go_simp; done) | (go_simp; rfl)); (case hp => exact (Reps.one (show Kd.M (Kd.int .i64) _ _ _ ji7 [.int .i64 ji7] from rfl) (Reps.none _ _)))
             intro v164 w18 ho19 hb hg_ hnew_
             clear hg_ hnew_
             (first | rw [← Ny163.out] at ho19 | (simp only [Int.reduceToNat] at ho19; rw [← Ny163.out] at ho19))
             have n0_ := Aside0.mk (Kd.N_elder' (nK HO_5) (Kd.R_base ho19) hb)
             have n1_ := Aside0.mk (Kd.R_elder' (rK HO_6) (Kd.R_base ho19) hb)
             have n2_ := Aside0.mk (Kd.R_elder' (rK HO_7) (Kd.R_base ho19) hb)
             have n3_ := Aside0.mk (Kd.R_elder' (rK HO161) (Kd.R_base ho19) hb)
             have n4_ := Aside0.mk (Kd.R_lower (Kd.R_new' (Kd.R_new' (Kd.R_new' (Kd.R_newM (M := fun k_ => (w.heap.size ≤ k_)) ho19 (below_size bB) (fun k_ h_ => h_)) (Kd.R_lt (rK HO_6))) (Kd.R_lt (rK HO_7))) (Kd.R_lt (rK HO161))) (below_size bB))
             have n5_ := Aside0.mk (below_step bB hb)
             clear HO_5 HO_6 HO_7 HO161 HB
             have HO_5 := n0_
             have HO_6 := n1_
             have HO_7 := n2_
             have HO161 := n3_
             have HO165 := n4_
             have HB := n5_
             clear n0_ n1_ n2_ n3_ n4_ n5_ hb ho19
             refine hK.out _ _ (((HB.out.cell (World.block_lt_of_cell? w _ hw162_0)).trans hw162_0)) (fun hHeld => ?_)
             clear hK K
             refine norm_ (a' := ?_) ?_ ?_
             rotate_left
             ·show Act.put _ (some 24) _ = _
              simp only [Act.put, List.setIfInBounds_toArray, List.set_cons_zero, List.set_cons_succ, i64_w, i32_w]
              rfl
             exact norm_ (by simp only [putAll, Act.put, List.setIfInBounds_toArray, List.set_cons_zero, List.set_cons_succ]) (hCont (v160, v164) _ ⟨hHeld, (by (with_reducible repeat (first | apply Kd.R_alloc | apply Kd.R_drewN | apply Kd.R_drew)); exact Kd.R_mono HO161.out (fun _ hk => ⟨hk.1.1.1.1, ⟨hk.2, ⟨hk.1.1.2, hk.1.2⟩⟩⟩)), (by (with_reducible repeat (first | apply Kd.R_alloc | apply Kd.R_drewN | apply Kd.R_drew)); exact Kd.R_mono HO165.out (fun _ hk => ⟨hk.1.1.1.1, ⟨hk.2, ⟨hk.1.1.2, hk.1.2⟩⟩⟩)), (by (with_reducible repeat (first | apply Kd.N_alloc | apply Kd.N_drewN | apply Kd.N_drew)); exact Kd.N_mono HO_5.out (fun _ hk => ⟨hk.1.1.1, ⟨hk.1.2, ⟨hk.2, ⟨hk.1.1.2.1, hk.1.1.2.2⟩⟩⟩⟩)), (by (with_reducible repeat (first | apply Kd.R_alloc | apply Kd.R_drewN | apply Kd.R_drew)); exact Kd.R_mono HO_6.out (fun _ hk => ⟨hk.1.1.1, ⟨hk.1.2, ⟨hk.2, hk.1.1.2⟩⟩⟩)), (by (with_reducible repeat (first | apply Kd.R_alloc | apply Kd.R_drewN | apply Kd.R_drew)); exact Kd.R_mono HO_7.out (fun _ hk => ⟨hk.1.1.1, ⟨hk.1.2, ⟨hk.2, hk.1.1.2⟩⟩⟩)), bB⟩)
            ·skip
             refine Kd.R_lit_step (Kd.int .i64) _ 3 ?hg (N := 24) ?hd (xs := ([ji7] : List Int)) (inner := [.int .i64 ji7]) (ok := fun _ => True) (okp := fun _ => True) ?hr ?hp (fun _ hk => hk) trivial (Below.refl _ _) (Nat.le_refl _) (by simp) ?_; (case hd => rfl); (case hg => rfl); (case hr => first | (go_simp; done) | (go_simp; rfl)); (case hp => exact (Reps.one (show Kd.M (Kd.int .i64) _ _ _ ji7 [.int .i64 ji7] from rfl) (Reps.none _ _)))
             intro v164 w17 ho18 hb hg_ hnew_
             clear hg_ hnew_
             (first | rw [← Ny163.out] at ho18 | (simp only [Int.reduceToNat] at ho18; rw [← Ny163.out] at ho18))
             have n0_ := Aside0.mk (Kd.N_elder' (nK HO_5) (Kd.R_base ho18) hb)
             have n1_ := Aside0.mk (Kd.R_elder' (rK HO_6) (Kd.R_base ho18) hb)
             have n2_ := Aside0.mk (Kd.R_elder' (rK HO_7) (Kd.R_base ho18) hb)
             have n3_ := Aside0.mk (Kd.R_lower (Kd.R_new' (Kd.R_new' (Kd.R_newM (M := fun k_ => (w.heap.size ≤ k_)) ho18 (below_size bB) (fun k_ h_ => h_)) (Kd.R_lt (rK HO_6))) (Kd.R_lt (rK HO_7))) (below_size bB))
             have n4_ := Aside0.mk (below_step bB hb)
             clear HO_5 HO_6 HO_7 HB
             have HO_5 := n0_
             have HO_6 := n1_
             have HO_7 := n2_
             have HO165 := n3_
             have HB := n4_
             clear n0_ n1_ n2_ n3_ n4_ hb ho18
             refine hK.out _ _ (((HB.out.cell (World.block_lt_of_cell? w _ hw162_0)).trans hw162_0)) (fun hHeld => ?_)
             clear hK K
             refine norm_ (a' := ?_) ?_ ?_
             rotate_left
             ·show Act.put _ (some 24) _ = _
              simp only [Act.put, List.setIfInBounds_toArray, List.set_cons_zero, List.set_cons_succ, i64_w, i32_w]
              rfl
             refine one_ (i := 2) (N := some 18) #[true, true, true, true, true, true, true, true, true, false, false, false, false] rfl rfl (one_of HT_.out (by kernel_rfl)) (by decide) (fun K hK => ?_)
             refine goes_ Tryd.func38 (by kernel_rfl) rfl #[.slice Ao14 x6_1.length co14] (by rfl) rfl rfl mA ?_
             with_reducible refine (slices_Clone_int_int.calls _ _ x6_1 t159 _ ?side1 ?side2 A4.out).mono ?_
             (case side1 => exact cK ((Kd.R_reads' HO_6.out).2.2))
             (case side2 => exact (Kd.R_reads' HO_6.out).2.1)
             rintro e w19 ⟨v160, rfl, ho0, hb⟩
             refine ⟨_, rfl, ?_⟩
             have n0_ := Aside0.mk (Kd.N_elder' (nK HO_5) (Kd.R_base ho0) hb)
             have n1_ := Aside0.mk (Kd.R_elder' (rK HO_6) (Kd.R_base ho0) hb)
             have n2_ := Aside0.mk (Kd.R_elder' (rK HO_7) (Kd.R_base ho0) hb)
             have n3_ := Aside0.mk (Kd.R_elder' (rK HO165) (Kd.R_base ho0) hb)
             have n4_ := Aside0.mk (Kd.R_lower (Kd.R_new' (Kd.R_new' (Kd.R_new' (Kd.R_newM (M := fun k_ => (w.heap.size ≤ k_)) ho0 (below_size bB) (fun k_ h_ => h_)) (Kd.R_lt (rK HO_6))) (Kd.R_lt (rK HO_7))) (Kd.R_lt (rK HO165))) (below_size bB))
             have n5_ := Aside0.mk (below_step bB hb)
             clear HO_5 HO_6 HO_7 HO165 HB
             have HO_5 := n0_
             have HO_6 := n1_
             have HO_7 := n2_
             have HO165 := n3_
             have HO161 := n4_
             have HB := n5_
             clear n0_ n1_ n2_ n3_ n4_ n5_
             (try clear hb)
             (try clear hb2)
             (try clear hk)
             (try clear hi)
             (try clear ho0)
             refine hK.out _ _ (((HB.out.cell (World.block_lt_of_cell? w _ hw162_0)).trans hw162_0)) (fun hHeld => ?_)
             clear hK K
             refine norm_ (a' := ?_) ?_ ?_
             rotate_left
             ·show Act.put _ (some 18) _ = _
              simp only [Act.put, List.setIfInBounds_toArray, List.set_cons_zero, List.set_cons_succ, i64_w, i32_w]
              rfl
             exact norm_ (by simp only [putAll, Act.put, List.setIfInBounds_toArray, List.set_cons_zero, List.set_cons_succ]) (hCont (v160, v164) _ ⟨hHeld, (by (with_reducible repeat (first | apply Kd.R_alloc | apply Kd.R_drewN | apply Kd.R_drew)); exact Kd.R_mono HO161.out (fun _ hk => ⟨hk.1.1.1.1, ⟨hk.2, ⟨hk.1.1.2, hk.1.2⟩⟩⟩)), (by (with_reducible repeat (first | apply Kd.R_alloc | apply Kd.R_drewN | apply Kd.R_drew)); exact Kd.R_mono HO165.out (fun _ hk => ⟨hk.1.1.1.1, ⟨hk.2, ⟨hk.1.1.2, hk.1.2⟩⟩⟩)), (by (with_reducible repeat (first | apply Kd.N_alloc | apply Kd.N_drewN | apply Kd.N_drew)); exact Kd.N_mono HO_5.out (fun _ hk => ⟨hk.1.1.1, ⟨hk.2, ⟨hk.1.2, ⟨hk.1.1.2.1, hk.1.1.2.2⟩⟩⟩⟩)), (by (with_reducible repeat (first | apply Kd.R_alloc | apply Kd.R_drewN | apply Kd.R_drew)); exact Kd.R_mono HO_6.out (fun _ hk => ⟨hk.1.1.1, ⟨hk.2, ⟨hk.1.2, hk.1.1.2⟩⟩⟩)), (by (with_reducible repeat (first | apply Kd.R_alloc | apply Kd.R_drewN | apply Kd.R_drew)); exact Kd.R_mono HO_7.out (fun _ hk => ⟨hk.1.1.1, ⟨hk.2, ⟨hk.1.2, hk.1.1.2⟩⟩⟩)), bB⟩)
           rintro ⟨v160, v164⟩ w20 ⟨hS_, h0_, h1_, h2_, h3_, h4_, h5_⟩
           have n0_ : Aside0 (Kd.R (Kd.int .i64) 3 w20 w.heap.size (fun k_ => (w.heap.size ≤ k_) ∧ some k_ ≠ (v164 : Value).ownBlock ∧ some k_ ≠ (.slice Ao14 x6_1.length co14 : Value).ownBlock ∧ some k_ ≠ (u7 : Value).ownBlock) v160 t159) := ⟨h0_⟩
           have n1_ : Aside0 (Kd.R (Kd.int .i64) 3 w20 w.heap.size (fun k_ => (w.heap.size ≤ k_) ∧ some k_ ≠ (v160 : Value).ownBlock ∧ some k_ ≠ (.slice Ao14 x6_1.length co14 : Value).ownBlock ∧ some k_ ≠ (u7 : Value).ownBlock) v164 y163) := ⟨h1_⟩
           have n2_ : Aside0 (Kd.N (Kd.slice 3 (Kd.int .i64)) 23 w20 w.heap.size (fun k_ => (w.heap.size ≤ k_) ∧ some k_ ≠ (v160 : Value).ownBlock ∧ some k_ ≠ (v164 : Value).ownBlock ∧ some k_ ≠ (.slice Ao14 x6_1.length co14 : Value).ownBlock ∧ some k_ ≠ (u7 : Value).ownBlock) (.slice Ao15 x5_1.length co15) x5_1) := ⟨h2_⟩
           have n3_ : Aside0 (Kd.R (Kd.int .i64) 3 w20 w.heap.size (fun k_ => (w.heap.size ≤ k_) ∧ some k_ ≠ (v160 : Value).ownBlock ∧ some k_ ≠ (v164 : Value).ownBlock ∧ some k_ ≠ (u7 : Value).ownBlock) (.slice Ao14 x6_1.length co14) x6_1) := ⟨h3_⟩
           have n4_ : Aside0 (Kd.R (Kd.int .i64) 3 w20 w.heap.size (fun k_ => (w.heap.size ≤ k_) ∧ some k_ ≠ (v160 : Value).ownBlock ∧ some k_ ≠ (v164 : Value).ownBlock ∧ some k_ ≠ (.slice Ao14 x6_1.length co14 : Value).ownBlock) u7 x7_1) := ⟨h4_⟩
           have n5_ : Aside0 (Below w.heap.size w w20) := ⟨h5_⟩
           clear HO_5 HO_6 HO_7 HB h0_ h1_ h2_ h3_ h4_ h5_
           have HO161 := n0_
           have HO165 := n1_
           have HO_5 := n2_
           have HO_6 := n3_
           have HO_7 := n4_
           have HB := n5_
           clear n0_ n1_ n2_ n3_ n4_ n5_
           have hHeld : w20.cell? (ad162.add (x8_1).toNat) = some (.int .i64 (rd l1 x8_1)) := hS_
           obtain ⟨Ao22, co22, eo22⟩ := Kd.R_slice HO165.out
           (first | subst eo22 | (injection eo22 with f1_ f2_ f3_; have f4_ := f1_.symm; have f5_ := f3_.symm; clear f1_ f2_ f3_; subst f4_; subst f5_))
           refine norm_ (a' := ?_) ?_ ?_
           rotate_left
           ·simp only [putAll, Act.put, List.setIfInBounds_toArray, List.set_cons_zero, List.set_cons_succ]
            rfl
           refine one_ (i := 9) (N := some 25) #[true, true, true, true, true, true, true, true, true, true, false, false, false] rfl rfl (one_of HT_.out (by kernel_rfl)) (by decide) (fun K hK => ?_)
           refine Kd.R_append_rows_step (Kd.int .i64) (w0 := w) w.heap.size (by rfl) (.tmp 18) (.tmp 24) 23 3 (.int .i64 0) 8 rfl Tryd.underlying23 info3 rfl (by decide) (by omega) v160 t159 y163 _ _ _ (fun k_ => (w.heap.size ≤ k_) ∧ some k_ ≠ (.slice Ao14 x6_1.length co14 : Value).ownBlock ∧ some k_ ≠ (u7 : Value).ownBlock ∧ some k_ ≠ (.slice Ao22 y163.length co22 : Value).ownBlock) (fun _ => False) rfl rfl ?aO ?aR (fun _ _ h => h) (fun _ h => h.elim) ?aF ?aB ?aS ?aL ?_
           (case aR => exact cK ((Kd.R_reads' HO165.out).2.2))
           (case aB => exact bB)
           (case aF => exact (fun k_ hk => ⟨(Nat.le_trans (below_size bB) hk), Kd.fresh' (Kd.R_lt (rK HO_6)) k_ hk, Kd.fresh' (Kd.R_lt (rK HO_7)) k_ hk, Kd.fresh' (Kd.R_lt (rK HO165)) k_ hk⟩))
           (case aO => exact (by (with_reducible repeat (first | apply Kd.R_alloc | apply Kd.R_drewN | apply Kd.R_drew)); exact Kd.R_mono HO161.out (fun _ hk => ⟨hk.1, ⟨hk.2.2.1, ⟨hk.2.2.2, hk.2.1⟩⟩⟩)))
           (case aS => exact (below_size bB))
           (case aL => have := LMc8.out; omega)
           intro v167 w21 ho hb hg hat
           rw [← Ny166.out] at ho
           have n0_ := Aside0.mk (Kd.N_afterv (ok := (fun k_ => (w.heap.size ≤ k_) ∧ some k_ ≠ (.slice Ao14 x6_1.length co14 : Value).ownBlock ∧ some k_ ≠ (u7 : Value).ownBlock ∧ some k_ ≠ (.slice Ao22 y163.length co22 : Value).ownBlock)) (by (with_reducible repeat (first | apply Kd.N_alloc | apply Kd.N_drewN | apply Kd.N_drew)); exact Kd.N_mono HO_5.out (fun _ hk => ⟨⟨hk.1, ⟨hk.2.2.2.1, ⟨hk.2.2.2.2, hk.2.2.1⟩⟩⟩, hk.2.1⟩)) hg hat)
           have n1_ := Aside0.mk (Kd.R_after (ok := (fun k_ => (w.heap.size ≤ k_) ∧ some k_ ≠ (u7 : Value).ownBlock ∧ some k_ ≠ (.slice Ao22 y163.length co22 : Value).ownBlock)) (by (with_reducible repeat (first | apply Kd.R_alloc | apply Kd.R_drewN | apply Kd.R_drew)); exact Kd.R_mono HO_6.out (fun _ hk => ⟨⟨hk.1, ⟨hk.2.2.2, hk.2.2.1⟩⟩, hk.2.1⟩)) hg hat)
           have n2_ := Aside0.mk (Kd.R_after (ok := (fun k_ => (w.heap.size ≤ k_) ∧ some k_ ≠ (.slice Ao14 x6_1.length co14 : Value).ownBlock ∧ some k_ ≠ (.slice Ao22 y163.length co22 : Value).ownBlock)) (by (with_reducible repeat (first | apply Kd.R_alloc | apply Kd.R_drewN | apply Kd.R_drew)); exact Kd.R_mono HO_7.out (fun _ hk => ⟨⟨hk.1, ⟨hk.2.2.2, hk.2.2.1⟩⟩, hk.2.1⟩)) hg hat)
           have n3_ := Aside0.mk (Kd.R_after (ok := (fun k_ => (w.heap.size ≤ k_) ∧ some k_ ≠ (.slice Ao14 x6_1.length co14 : Value).ownBlock ∧ some k_ ≠ (u7 : Value).ownBlock)) (by (with_reducible repeat (first | apply Kd.R_alloc | apply Kd.R_drewN | apply Kd.R_drew)); exact Kd.R_mono HO165.out (fun _ hk => ⟨⟨hk.1, ⟨hk.2.2.1, hk.2.2.2⟩⟩, hk.2.1⟩)) hg hat)
           have n4_ := Aside0.mk (hb)
           have n5_ := Aside0.mk (ho)
           clear HO_5 HO_6 HO_7 HO165 HB HO161
           have HO_5 := n0_
           have HO_6 := n1_
           have HO_7 := n2_
           have HO165 := n3_
           have HB := n4_
           have HO168 := n5_
           clear n0_ n1_ n2_ n3_ n4_ n5_ ho hb hg hat
           obtain ⟨Ao23, co23, eo23⟩ := Kd.R_slice HO168.out
           (first | subst eo23 | (injection eo23 with f1_ f2_ f3_; have f4_ := f1_.symm; have f5_ := f3_.symm; clear f1_ f2_ f3_; subst f4_; subst f5_))
           refine hK.out _ _ (((HB.out.cell (World.block_lt_of_cell? w _ hw162_0)).trans hw162_0)) (fun hHeld => ?_)
           clear hK K
           refine norm_ (a' := ?_) ?_ ?_
           rotate_left
           ·show Act.put _ (some 25) _ = _
            simp only [Act.put, List.setIfInBounds_toArray, List.set_cons_zero, List.set_cons_succ, i64_w, i32_w]
            rfl
           refine one_ (i := 10) (N := some 26) #[true, true, true, true, true, true, true, true, true, true, true, false, false] rfl rfl (one_of HT_.out (by kernel_rfl)) (by decide) (fun K hK => ?_)
           refine Kd.N_lit_step (Kd.slice 3 (Kd.int .i64)) _ 23 ?hg (N' := 26) ?hd (xs := ([y166] : List (List Int))) (inner := [.slice Ao23 y166.length co23]) (ok := (fun k_ => (w.heap.size ≤ k_) ∧ some k_ ≠ (.slice Ao15 x5_1.length co15 : Value).ownBlock ∧ some k_ ≠ (.slice Ao14 x6_1.length co14 : Value).ownBlock ∧ some k_ ≠ (u7 : Value).ownBlock ∧ some k_ ≠ (.slice Ao22 y163.length co22 : Value).ownBlock)) (okp := (fun k_ => (w.heap.size ≤ k_) ∧ some k_ ≠ (.slice Ao15 x5_1.length co15 : Value).ownBlock ∧ some k_ ≠ (.slice Ao14 x6_1.length co14 : Value).ownBlock ∧ some k_ ≠ (u7 : Value).ownBlock ∧ some k_ ≠ (.slice Ao22 y163.length co22 : Value).ownBlock)) ?hr ?hp (fun _ hk => hk) ((show ∀ k_, w21.heap.size ≤ k_ → (fun k_ => (w.heap.size ≤ k_) ∧ some k_ ≠ (.slice Ao15 x5_1.length co15 : Value).ownBlock ∧ some k_ ≠ (.slice Ao14 x6_1.length co14 : Value).ownBlock ∧ some k_ ≠ (u7 : Value).ownBlock ∧ some k_ ≠ (.slice Ao22 y163.length co22 : Value).ownBlock) k_ from fun k_ hk => ⟨(Nat.le_trans (below_size bB) hk), Kd.fresh' (Kd.N_lt (nK HO_5)) k_ hk, Kd.fresh' (Kd.R_lt (rK HO_6)) k_ hk, Kd.fresh' (Kd.R_lt (rK HO_7)) k_ hk, Kd.fresh' (Kd.R_lt (rK HO165)) k_ hk⟩) _ (Nat.le_refl _)) (Below.refl _ _) (Nat.le_refl _) (by simp) ?_; (case hd => rfl); (case hg => rfl); (case hr => first | (go_simp; done) | (go_simp; rfl)); (case hp => exact (Reps.one (show Kd.FK (Kd.slice 3 (Kd.int .i64)) _ _ y166 [.slice Ao23 y166.length co23] from (Kd.FK_slice_mk (Kd.R_reads' (Kd.R_mono (ok' := (fun k_ => (w.heap.size ≤ k_) ∧ some k_ ≠ (.slice Ao15 x5_1.length co15 : Value).ownBlock ∧ some k_ ≠ (.slice Ao14 x6_1.length co14 : Value).ownBlock ∧ some k_ ≠ (u7 : Value).ownBlock ∧ some k_ ≠ (.slice Ao22 y163.length co22 : Value).ownBlock)) (Kd.R_apart' (HO168.out) (Kd.N_typed HO_5.out) (by decide)) (fun k_ hk => ⟨hk.1.1, ⟨hk.2, ⟨hk.1.2.1, ⟨hk.1.2.2.1, hk.1.2.2.2⟩⟩⟩⟩))).2.1 (Kd.R_F (Kd.R_mono (ok' := (fun k_ => (w.heap.size ≤ k_) ∧ some k_ ≠ (.slice Ao15 x5_1.length co15 : Value).ownBlock ∧ some k_ ≠ (.slice Ao14 x6_1.length co14 : Value).ownBlock ∧ some k_ ≠ (u7 : Value).ownBlock ∧ some k_ ≠ (.slice Ao22 y163.length co22 : Value).ownBlock)) (Kd.R_apart' (HO168.out) (Kd.N_typed HO_5.out) (by decide)) (fun k_ hk => ⟨hk.1.1, ⟨hk.2, ⟨hk.1.2.1, ⟨hk.1.2.2.1, hk.1.2.2.2⟩⟩⟩⟩))))) (Reps.none _ _)))
           intro v170 w24 ho25 hb hg_ hnew_
           clear hg_ hnew_
           (first | rw [← Ny169.out] at ho25 | (simp only [Int.reduceToNat] at ho25; rw [← Ny169.out] at ho25))
           have n0_ := Aside0.mk (Kd.N_elder' (nK HO_5) (Kd.N_base ho25) hb)
           have n1_ := Aside0.mk (Kd.R_below (rK HO_6) hb)
           have n2_ := Aside0.mk (Kd.R_below (rK HO_7) hb)
           have n3_ := Aside0.mk (Kd.R_below (rK HO165) hb)
           have n4_ := Aside0.mk (Kd.N_lower ho25 (below_size bB))
           have n5_ := Aside0.mk (below_step bB hb)
           clear HO_5 HO_6 HO_7 HO165 HB HO168
           have HO_5 := n0_
           have HO_6 := n1_
           have HO_7 := n2_
           have HO165 := n3_
           have HO171 := n4_
           have HB := n5_
           clear n0_ n1_ n2_ n3_ n4_ n5_ hb ho25
           obtain ⟨Ao27, co27, eo27⟩ := Kd.N_slice HO171.out
           (first | subst eo27 | (injection eo27 with f1_ f2_ f3_; have f4_ := f1_.symm; have f5_ := f3_.symm; clear f1_ f2_ f3_; subst f4_; subst f5_))
           refine hK.out _ _ (((HB.out.cell (World.block_lt_of_cell? w _ hw162_0)).trans hw162_0)) (fun hHeld => ?_)
           clear hK K
           refine norm_ (a' := ?_) ?_ ?_
           rotate_left
           ·show Act.put _ (some 26) _ = _
            simp only [Act.put, List.setIfInBounds_toArray, List.set_cons_zero, List.set_cons_succ, i64_w, i32_w]
            rfl
           refine one_ (i := 11) (N := some 27) #[true, true, true, true, true, true, true, true, true, true, true, true, false] rfl rfl (one_of HT_.out (by kernel_rfl)) (by decide) (fun K hK => ?_)
           refine Kd.N_append_rows_step (Kd.slice 3 (Kd.int .i64)) (w0 := w) w.heap.size (by rfl) (.tmp 16) (.tmp 26) 25 23 (.slice none 0 0) 24 rfl Tryd.underlying25 info23 rfl (by decide) (by omega) (.slice Ao15 x5_1.length co15) x5_1 y169 _ _ _ (fun k_ => (w.heap.size ≤ k_) ∧ some k_ ≠ (.slice Ao14 x6_1.length co14 : Value).ownBlock ∧ some k_ ≠ (u7 : Value).ownBlock ∧ some k_ ≠ (.slice Ao22 y163.length co22 : Value).ownBlock) (fun k_ => ((fun k_ => (w.heap.size ≤ k_) ∧ some k_ ≠ (.slice Ao14 x6_1.length co14 : Value).ownBlock ∧ some k_ ≠ (u7 : Value).ownBlock ∧ some k_ ≠ (.slice Ao22 y163.length co22 : Value).ownBlock)) k_ ∧ some k_ ≠ (.slice Ao15 x5_1.length co15 : Value).ownBlock) rfl rfl ?aO ?aR (fun _ hk => hk) ?aF ?aB ?aS ?aL ?_
           (case aR => exact (by skip; exact Kd.N_F (Kd.N_mono (ok' := (fun k_ => ((fun k_ => (w.heap.size ≤ k_) ∧ some k_ ≠ (.slice Ao14 x6_1.length co14 : Value).ownBlock ∧ some k_ ≠ (u7 : Value).ownBlock ∧ some k_ ≠ (.slice Ao22 y163.length co22 : Value).ownBlock)) k_ ∧ some k_ ≠ (.slice Ao15 x5_1.length co15 : Value).ownBlock)) (HO171.out) (fun k_ hk => ⟨⟨hk.1, ⟨hk.2.2.1, ⟨hk.2.2.2.1, hk.2.2.2.2⟩⟩⟩, hk.2.1⟩))))
           (case aB => exact bB)
           (case aF => exact (fun k_ hk => ⟨(Nat.le_trans (below_size bB) hk), Kd.fresh' (Kd.R_lt (rK HO_6)) k_ hk, Kd.fresh' (Kd.R_lt (rK HO_7)) k_ hk, Kd.fresh' (Kd.R_lt (rK HO165)) k_ hk⟩))
           (case aO => exact (by (with_reducible repeat (first | apply Kd.N_alloc | apply Kd.N_drewN | apply Kd.N_drew)); exact Kd.N_mono HO_5.out (fun _ hk => ⟨hk.1.1.1, ⟨hk.1.1.2.1, ⟨hk.1.1.2.2.1, hk.1.1.2.2.2⟩⟩⟩)))
           (case aS => exact (below_size bB))
           (case aL => have := LMc9.out; omega)
           intro v173 w26 ho hb hg hat
           rw [← Ny172.out] at ho
           have n0_ := Aside0.mk (Kd.R_over' (rK HO_6) (Kd.N_typed (nK HO_5)) (by decide) hg)
           have n1_ := Aside0.mk (Kd.R_over' (rK HO_7) (Kd.N_typed (nK HO_5)) (by decide) hg)
           have n2_ := Aside0.mk (Kd.R_over' (rK HO165) (Kd.N_typed (nK HO_5)) (by decide) hg)
           have n3_ := Aside0.mk (Kd.N_afterv (ok := (fun k_ => (w.heap.size ≤ k_) ∧ some k_ ≠ (.slice Ao14 x6_1.length co14 : Value).ownBlock ∧ some k_ ≠ (u7 : Value).ownBlock ∧ some k_ ≠ (.slice Ao22 y163.length co22 : Value).ownBlock)) (by (with_reducible repeat (first | apply Kd.N_alloc | apply Kd.N_drewN | apply Kd.N_drew)); exact Kd.N_mono HO171.out (fun _ hk => ⟨⟨hk.1, ⟨hk.2.2.1, ⟨hk.2.2.2.1, hk.2.2.2.2⟩⟩⟩, hk.2.1⟩)) hg hat)
           have n4_ := Aside0.mk (hb)
           have n5_ := Aside0.mk (ho)
           clear HO_6 HO_7 HO165 HO171 HB HO_5
           have HO_6 := n0_
           have HO_7 := n1_
           have HO165 := n2_
           have HO171 := n3_
           have HB := n4_
           have HO174 := n5_
           clear n0_ n1_ n2_ n3_ n4_ n5_ ho hb hg hat
           refine hK.out _ _ (((HB.out.cell (World.block_lt_of_cell? w _ hw162_0)).trans hw162_0)) (fun hHeld => ?_)
           clear hK K
           refine norm_ (a' := ?_) ?_ ?_
           rotate_left
           ·show Act.put _ (some 27) _ = _
            simp only [Act.put, List.setIfInBounds_toArray, List.set_cons_zero, List.set_cons_succ, i64_w, i32_w]
            rfl
           refine pure_ (i := 12) (N := some 5) (v := ?_) (a' := ?_) #[true, true, true, true, true, true, true, true, true, true, true, true, true] rfl rfl (any_of HT_.out (by kernel_rfl)) (fun _ _ _ h => h) (Or.inl ⟨by rfl, ?_⟩) ?_ ?_
           rotate_left
           ·intro w'
            go_simp
            with_reducible rfl
           rotate_left
           ·simp only [Act.put, List.setIfInBounds_toArray, List.set_cons_zero, List.set_cons_succ, i64_w, i32_w]
            rfl
           refine done_ (done_of HT_.out (by kernel_rfl)) ?_
           have p175 : 0 ≤ (x8_1 : Int) := of_decide_eq_true aK
           have q175 : x8_1 < (l1.length : Int) := of_decide_eq_true aK
           obtain ⟨ad175, e175, hx175_0⟩ := Kd.at_int HR1.out x8_1 p175 q175
           obtain rfl : ad162 = ad175 := (by injection e175)
           replace hx175_0 := (HB.out.cell (World.block_lt_of_cell? w _ hx175_0)).trans hx175_0
           replace p175 := eq_true p175
           replace q175 := eq_true q175
           try go_wp2_with (first | ((with_reducible refine gate_callee (f := 39) rfl ?_); refine goesL_ (some 33) rfl rfl Tryd.func39 (by kernel_rfl) rfl #[.slice A0 l0.length c0, .int .i64 (rd l1 x8_1)] rfl mA ?_; (with_reducible refine (path_arity.calls _ _ l0 (rd l1 x8_1) t176 _ ?side1 ?side2 A10.out).mono ?_); (case side1 => exact cK (Kd.C_below HR0.out HB.out)); (case side2 => exact HC0.out); rintro e w' ⟨rfl, ⟨nd, rfl⟩⟩; refine ⟨_, rfl, ?_⟩) | ((with_reducible refine gate_dst (N := 37) rfl ?_); refine Kd.R_lit (Kd.int .i64) _ 3 ?hg (N := 37) ?hd (xs := ([0] : List Int)) (inner := [.int .i64 0]) (ok := fun _ => True) (okp := fun _ => True) ?hr ?hp (fun _ hk => hk) trivial (Below.refl _ _) (Nat.le_refl _) (by simp) ?_; (case hd => rfl); (case hg => rfl); (case hr => first | (go_simp; done) | (go_simp; rfl)); (case hp => exact (Reps.one (show Kd.M (Kd.int .i64) _ _ _ 0 [.int .i64 0] from rfl) (Reps.none _ _))); intro v178 w28 ho29 hb hg_ hnew_; clear hg_ hnew_; (first | rw [← Ny177.out] at ho29 | (simp only [Int.reduceToNat] at ho29; rw [← Ny177.out] at ho29)); have n0_ := Aside0.mk (Kd.R_elder' (rK HO_6) (Kd.R_base ho29) hb); have n1_ := Aside0.mk (Kd.R_elder' (rK HO_7) (Kd.R_base ho29) hb); have n2_ := Aside0.mk (Kd.R_elder' (rK HO165) (Kd.R_base ho29) hb); have n3_ := Aside0.mk (Kd.N_elder' (nK HO171) (Kd.R_base ho29) hb); have n4_ := Aside0.mk (Kd.N_elder' (nK HO174) (Kd.R_base ho29) hb); have n5_ := Aside0.mk (Kd.R_lower (Kd.R_new' (Kd.R_new' (Kd.R_new' (Kd.R_newM (M := fun k_ => (w.heap.size ≤ k_)) ho29 (below_size bB) (fun k_ h_ => h_)) (Kd.R_lt (rK HO_6))) (Kd.R_lt (rK HO_7))) (Kd.R_lt (rK HO165))) (below_size bB)); have n6_ := Aside0.mk (below_step bB hb); clear HO_6; clear HO_7; clear HO165; clear HO171; clear HO174; clear HB; have HO_6 := n0_; have HO_7 := n1_; have HO165 := n2_; have HO171 := n3_; have HO174 := n4_; have HO179 := n5_; have HB := n6_; clear n0_ n1_ n2_ n3_ n4_ n5_ n6_; clear hb ho29; obtain ⟨Ao31, co31, eo31⟩ := Kd.R_slice HO179.out; subst eo31) | ((with_reducible refine gate_builtin (b := .append) (xs := #[.tmp 36, .tmp 37]) rfl ?_); at_builtin; refine Kd.R_append_rows (Kd.int .i64) (w0 := w) w.heap.size rfl (.tmp 36) (.tmp 37) 23 3 (.int .i64 0) 8 rfl Tryd.underlying23 info3 rfl (by decide) (by omega) (.slice Ao14 x6_1.length co14) x6_1 y177 _ _ _ (fun k_ => (w.heap.size ≤ k_) ∧ some k_ ≠ (u7 : Value).ownBlock ∧ some k_ ≠ (.slice Ao22 y163.length co22 : Value).ownBlock ∧ some k_ ≠ (.slice Ao31 y177.length co31 : Value).ownBlock) (fun _ => False) rfl rfl ?aO ?aR (fun _ _ h => h) (fun _ h => h.elim) ?aF ?aB ?aS ?aL ?_; (case aR => exact cK ((Kd.R_reads' HO179.out).2.2)); (case aB => exact bB); (case aF => exact (fun k_ hk => ⟨(Nat.le_trans (below_size bB) hk), Kd.fresh' (Kd.R_lt (rK HO_7)) k_ hk, Kd.fresh' (Kd.R_lt (rK HO165)) k_ hk, Kd.fresh' (Kd.R_lt (rK HO179)) k_ hk⟩)); (case aO => exact (by (with_reducible repeat (first | apply Kd.R_alloc | apply Kd.R_drewN | apply Kd.R_drew)); exact Kd.R_mono HO_6.out (fun _ hk => ⟨hk.1.1.1, ⟨hk.1.1.2.1, ⟨hk.1.1.2.2, hk.2⟩⟩⟩))); (case aS => exact (below_size bB)); (case aL => have := LMc12.out; omega); intro v181 w30 ho hb hg hat; rw [← Ny180.out] at ho; have n0_ := Aside0.mk (Kd.R_after (ok := (fun k_ => (w.heap.size ≤ k_) ∧ some k_ ≠ (.slice Ao22 y163.length co22 : Value).ownBlock ∧ some k_ ≠ (.slice Ao31 y177.length co31 : Value).ownBlock)) (by (with_reducible repeat (first | apply Kd.R_alloc | apply Kd.R_drewN | apply Kd.R_drew)); exact Kd.R_mono HO_7.out (fun _ hk => ⟨⟨hk.1.1.1, ⟨hk.1.1.2.2, hk.2⟩⟩, hk.1.1.2.1⟩)) hg hat); have n1_ := Aside0.mk (Kd.R_after (ok := (fun k_ => (w.heap.size ≤ k_) ∧ some k_ ≠ (u7 : Value).ownBlock ∧ some k_ ≠ (.slice Ao31 y177.length co31 : Value).ownBlock)) (by (with_reducible repeat (first | apply Kd.R_alloc | apply Kd.R_drewN | apply Kd.R_drew)); exact Kd.R_mono HO165.out (fun _ hk => ⟨⟨hk.1.1.1, ⟨hk.1.1.2.2, hk.2⟩⟩, hk.1.1.2.1⟩)) hg hat); have n2_ := Aside0.mk (Kd.N_afterv (ok := (fun k_ => (w.heap.size ≤ k_) ∧ some k_ ≠ (u7 : Value).ownBlock ∧ some k_ ≠ (.slice Ao22 y163.length co22 : Value).ownBlock ∧ some k_ ≠ (v173 : Value).ownBlock ∧ some k_ ≠ (.slice Ao31 y177.length co31 : Value).ownBlock)) (by (with_reducible repeat (first | apply Kd.N_alloc | apply Kd.N_drewN | apply Kd.N_drew)); exact Kd.N_mono HO171.out (fun _ hk => ⟨⟨hk.1.1.1, ⟨hk.1.1.2.2.1, ⟨hk.1.1.2.2.2, ⟨hk.1.2, hk.2⟩⟩⟩⟩, hk.1.1.2.1⟩)) hg hat); have n3_ := Aside0.mk (Kd.N_afterv (ok := (fun k_ => (w.heap.size ≤ k_) ∧ some k_ ≠ (u7 : Value).ownBlock ∧ some k_ ≠ (.slice Ao22 y163.length co22 : Value).ownBlock ∧ some k_ ≠ (.slice Ao31 y177.length co31 : Value).ownBlock)) (by (with_reducible repeat (first | apply Kd.N_alloc | apply Kd.N_drewN | apply Kd.N_drew)); exact Kd.N_mono HO174.out (fun _ hk => ⟨⟨hk.1.1, ⟨hk.1.2.2.1, ⟨hk.1.2.2.2, hk.2⟩⟩⟩, hk.1.2.1⟩)) hg hat); have n4_ := Aside0.mk (Kd.R_after (ok := (fun k_ => (w.heap.size ≤ k_) ∧ some k_ ≠ (u7 : Value).ownBlock ∧ some k_ ≠ (.slice Ao22 y163.length co22 : Value).ownBlock)) (by (with_reducible repeat (first | apply Kd.R_alloc | apply Kd.R_drewN | apply Kd.R_drew)); exact Kd.R_mono HO179.out (fun _ hk => ⟨⟨hk.1.1.1.1, ⟨hk.1.2, hk.2⟩⟩, hk.1.1.2⟩)) hg hat); have n5_ := Aside0.mk (hb); have n6_ := Aside0.mk (ho); clear HO_7; clear HO165; clear HO171; clear HO174; clear HO179; clear HB; clear HO_6; have HO_7 := n0_; have HO165 := n1_; have HO171 := n2_; have HO174 := n3_; have HO179 := n4_; have HB := n5_; have HO182 := n6_; clear n0_ n1_ n2_ n3_ n4_ n5_ n6_; clear ho hb hg hat) | ((with_reducible refine gate_dst (N := 42) rfl ?_); refine Kd.R_lit (Kd.int .i64) _ 3 ?hg (N := 42) ?hd (xs := ([wrap64 (t176 - 1)] : List Int)) (inner := [.int .i64 (wrap64 (t176 - 1))]) (ok := fun _ => True) (okp := fun _ => True) ?hr ?hp (fun _ hk => hk) trivial (Below.refl _ _) (Nat.le_refl _) (by simp) ?_; (case hd => rfl); (case hg => rfl); (case hr => first | (go_simp; done) | (go_simp; rfl)); (case hp => exact (Reps.one (show Kd.M (Kd.int .i64) _ _ _ (wrap64 (t176 - 1)) [.int .i64 (wrap64 (t176 - 1))] from rfl) (Reps.none _ _))); intro v184 w32 ho33 hb hg_ hnew_; clear hg_ hnew_; (first | rw [← Ny183.out] at ho33 | (simp only [Int.reduceToNat] at ho33; rw [← Ny183.out] at ho33)); have n0_ := Aside0.mk (Kd.R_elder' (rK HO_7) (Kd.R_base ho33) hb); have n1_ := Aside0.mk (Kd.R_elder' (rK HO165) (Kd.R_base ho33) hb); have n2_ := Aside0.mk (Kd.N_elder' (nK HO171) (Kd.R_base ho33) hb); have n3_ := Aside0.mk (Kd.N_elder' (nK HO174) (Kd.R_base ho33) hb); have n4_ := Aside0.mk (Kd.R_elder' (rK HO179) (Kd.R_base ho33) hb); have n5_ := Aside0.mk (Kd.R_elder' (rK HO182) (Kd.R_base ho33) hb); have n6_ := Aside0.mk (Kd.R_lower (Kd.R_new' (Kd.R_new' (Kd.R_new' (Kd.R_new' (Kd.R_newM (M := fun k_ => (w.heap.size ≤ k_)) ho33 (below_size bB) (fun k_ h_ => h_)) (Kd.R_lt (rK HO_7))) (Kd.R_lt (rK HO165))) (Kd.R_lt (rK HO179))) (Kd.R_lt (rK HO182))) (below_size bB)); have n7_ := Aside0.mk (below_step bB hb); clear HO_7; clear HO165; clear HO171; clear HO174; clear HO179; clear HO182; clear HB; have HO_7 := n0_; have HO165 := n1_; have HO171 := n2_; have HO174 := n3_; have HO179 := n4_; have HO182 := n5_; have HO185 := n6_; have HB := n7_; clear n0_ n1_ n2_ n3_ n4_ n5_ n6_ n7_; clear hb ho33; obtain ⟨Ao35, co35, eo35⟩ := Kd.R_slice HO185.out; subst eo35) | ((with_reducible refine gate_builtin (b := .append) (xs := #[.tmp 39, .tmp 42]) rfl ?_); at_builtin; refine Kd.R_append_rows (Kd.int .i64) (w0 := w) w.heap.size rfl (.tmp 39) (.tmp 42) 23 3 (.int .i64 0) 8 rfl Tryd.underlying23 info3 rfl (by decide) (by omega) u7 x7_1 y183 _ _ _ (fun k_ => (w.heap.size ≤ k_) ∧ some k_ ≠ (.slice Ao22 y163.length co22 : Value).ownBlock ∧ some k_ ≠ (.slice Ao31 y177.length co31 : Value).ownBlock ∧ some k_ ≠ (v181 : Value).ownBlock ∧ some k_ ≠ (.slice Ao35 y183.length co35 : Value).ownBlock) (fun _ => False) rfl rfl ?aO ?aR (fun _ _ h => h) (fun _ h => h.elim) ?aF ?aB ?aS ?aL ?_; (case aR => exact cK ((Kd.R_reads' HO185.out).2.2)); (case aB => exact bB); (case aF => exact (fun k_ hk => ⟨(Nat.le_trans (below_size bB) hk), Kd.fresh' (Kd.R_lt (rK HO165)) k_ hk, Kd.fresh' (Kd.R_lt (rK HO179)) k_ hk, Kd.fresh' (Kd.R_lt (rK HO182)) k_ hk, Kd.fresh' (Kd.R_lt (rK HO185)) k_ hk⟩)); (case aO => exact (by (with_reducible repeat (first | apply Kd.R_alloc | apply Kd.R_drewN | apply Kd.R_drew)); exact Kd.R_mono HO_7.out (fun _ hk => ⟨hk.1.1.1, ⟨hk.1.1.2.1, ⟨hk.1.1.2.2, ⟨hk.1.2, hk.2⟩⟩⟩⟩))); (case aS => exact (below_size bB)); (case aL => have := LMc13.out; omega); intro v187 w34 ho hb hg hat; rw [← Ny186.out] at ho; have n0_ := Aside0.mk (Kd.R_after (ok := (fun k_ => (w.heap.size ≤ k_) ∧ some k_ ≠ (.slice Ao31 y177.length co31 : Value).ownBlock ∧ some k_ ≠ (v181 : Value).ownBlock ∧ some k_ ≠ (.slice Ao35 y183.length co35 : Value).ownBlock)) (by (with_reducible repeat (first | apply Kd.R_alloc | apply Kd.R_drewN | apply Kd.R_drew)); exact Kd.R_mono HO165.out (fun _ hk => ⟨⟨hk.1.1.1, ⟨hk.1.1.2.2, ⟨hk.1.2, hk.2⟩⟩⟩, hk.1.1.2.1⟩)) hg hat); have n1_ := Aside0.mk (Kd.N_afterv (ok := (fun k_ => (w.heap.size ≤ k_) ∧ some k_ ≠ (.slice Ao22 y163.length co22 : Value).ownBlock ∧ some k_ ≠ (v173 : Value).ownBlock ∧ some k_ ≠ (.slice Ao31 y177.length co31 : Value).ownBlock ∧ some k_ ≠ (v181 : Value).ownBlock ∧ some k_ ≠ (.slice Ao35 y183.length co35 : Value).ownBlock)) (by (with_reducible repeat (first | apply Kd.N_alloc | apply Kd.N_drewN | apply Kd.N_drew)); exact Kd.N_mono HO171.out (fun _ hk => ⟨⟨hk.1.1.1, ⟨hk.1.1.2.2.1, ⟨hk.1.1.2.2.2.1, ⟨hk.1.1.2.2.2.2, ⟨hk.1.2, hk.2⟩⟩⟩⟩⟩, hk.1.1.2.1⟩)) hg hat); have n2_ := Aside0.mk (Kd.N_afterv (ok := (fun k_ => (w.heap.size ≤ k_) ∧ some k_ ≠ (.slice Ao22 y163.length co22 : Value).ownBlock ∧ some k_ ≠ (.slice Ao31 y177.length co31 : Value).ownBlock ∧ some k_ ≠ (v181 : Value).ownBlock ∧ some k_ ≠ (.slice Ao35 y183.length co35 : Value).ownBlock)) (by (with_reducible repeat (first | apply Kd.N_alloc | apply Kd.N_drewN | apply Kd.N_drew)); exact Kd.N_mono HO174.out (fun _ hk => ⟨⟨hk.1.1.1, ⟨hk.1.1.2.2.1, ⟨hk.1.1.2.2.2, ⟨hk.1.2, hk.2⟩⟩⟩⟩, hk.1.1.2.1⟩)) hg hat); have n3_ := Aside0.mk (Kd.R_after (ok := (fun k_ => (w.heap.size ≤ k_) ∧ some k_ ≠ (.slice Ao22 y163.length co22 : Value).ownBlock ∧ some k_ ≠ (v181 : Value).ownBlock ∧ some k_ ≠ (.slice Ao35 y183.length co35 : Value).ownBlock)) (by (with_reducible repeat (first | apply Kd.R_alloc | apply Kd.R_drewN | apply Kd.R_drew)); exact Kd.R_mono HO179.out (fun _ hk => ⟨⟨hk.1.1.1, ⟨hk.1.1.2.2, ⟨hk.1.2, hk.2⟩⟩⟩, hk.1.1.2.1⟩)) hg hat); have n4_ := Aside0.mk (Kd.R_after (ok := (fun k_ => (w.heap.size ≤ k_) ∧ some k_ ≠ (.slice Ao22 y163.length co22 : Value).ownBlock ∧ some k_ ≠ (.slice Ao31 y177.length co31 : Value).ownBlock ∧ some k_ ≠ (.slice Ao35 y183.length co35 : Value).ownBlock)) (by (with_reducible repeat (first | apply Kd.R_alloc | apply Kd.R_drewN | apply Kd.R_drew)); exact Kd.R_mono HO182.out (fun _ hk => ⟨⟨hk.1.1, ⟨hk.1.2.2.1, ⟨hk.1.2.2.2, hk.2⟩⟩⟩, hk.1.2.1⟩)) hg hat); have n5_ := Aside0.mk (Kd.R_after (ok := (fun k_ => (w.heap.size ≤ k_) ∧ some k_ ≠ (.slice Ao22 y163.length co22 : Value).ownBlock ∧ some k_ ≠ (.slice Ao31 y177.length co31 : Value).ownBlock ∧ some k_ ≠ (v181 : Value).ownBlock)) (by (with_reducible repeat (first | apply Kd.R_alloc | apply Kd.R_drewN | apply Kd.R_drew)); exact Kd.R_mono HO185.out (fun _ hk => ⟨⟨hk.1.1.1.1.1, ⟨hk.1.1.2, ⟨hk.1.2, hk.2⟩⟩⟩, hk.1.1.1.2⟩)) hg hat); have n6_ := Aside0.mk (hb); have n7_ := Aside0.mk (ho); clear HO165; clear HO171; clear HO174; clear HO179; clear HO182; clear HO185; clear HB; clear HO_7; have HO165 := n0_; have HO171 := n1_; have HO174 := n2_; have HO179 := n3_; have HO182 := n4_; have HO185 := n5_; have HB := n6_; have HO188 := n7_; clear n0_ n1_ n2_ n3_ n4_ n5_ n6_ n7_; clear ho hb hg hat))
           go_step3
           refine And.intro rfl ?_
           go_step
           go_roundg k1
           case measure => have := HK1.out; omega
           case rel => exact ⟨(y172), (y180), (y186), (wrap64 (x8_1 + 1)), sK, H', ⟨by have := HK1.out; omega⟩, ⟨by (with_reducible repeat (first | apply Kd.N_alloc | apply Kd.N_drewN | apply Kd.N_drew)); exact Kd.N_mono HO174.out (fun _ hk => ⟨hk.1.1, ⟨hk.1.2.2.2.1, hk.2⟩⟩)⟩, ⟨by (with_reducible repeat (first | apply Kd.R_alloc | apply Kd.R_drewN | apply Kd.R_drew)); exact Kd.R_mono HO182.out (fun _ hk => ⟨hk.1.1, hk.2⟩)⟩, ⟨by (with_reducible repeat (first | apply Kd.R_alloc | apply Kd.R_drewN | apply Kd.R_drew)); exact Kd.R_mono HO188.out (fun _ hk => ⟨hk.1, hk.2.2.2.1⟩)⟩, ⟨bB⟩⟩
          ·rw [if_neg c13] at H
           exact absurd H (by simp)
         ·rw [if_neg c12] at H
          exact absurd H (by simp)
        ·rw [if_neg c11] at H
         have c11b0 : decide (0 < t176) = false := decide_eq_false c11
         clear c11
         have H' := Aside0.mk H
         clear H
         obtain ⟨Ao36, co36, eo36⟩ := Kd.R_slice HO_6.out
         subst eo36
         obtain ⟨Ao37, co37, eo37⟩ := Kd.N_slice HO_5.out
         subst eo37
         try go_wp2
         have n0_ := Aside0.mk (Kd.N_drew HO_5.out)
         have n1_ := Aside0.mk (Kd.R_drew HO_6.out)
         have n2_ := Aside0.mk (Kd.R_drew HO_7.out)
         have n3_ := Aside0.mk (below_drew1 HB.out)
         clear HO_5 HO_6 HO_7 HB
         have HO_5 := n0_
         have HO_6 := n1_
         have HO_7 := n2_
         have HB := n3_
         clear n0_ n1_ n2_ n3_
         have p162 : 0 ≤ (x8_1 : Int) := of_decide_eq_true aK
         have q162 : x8_1 < (l1.length : Int) := of_decide_eq_true aK
         obtain ⟨ad162, e162, hx162_0⟩ := Kd.at_int HR1.out x8_1 p162 q162
         have hw162_0 := hx162_0
         cases e162
         replace hx162_0 := (HB.out.cell (World.block_lt_of_cell? w _ hx162_0)).trans hx162_0
         replace p162 := eq_true p162
         replace q162 := eq_true q162
         refine start_ (n := 13) (S := fun w' => w'.cell? (ad162.add (x8_1).toNat) = some (.int .i64 (rd l1 x8_1))) (ds := []) #[false, false, false, false, false, false, false, false, false, false, false, false, false] (by kernel_rfl) rfl rfl (((HB.out.cell (World.block_lt_of_cell? w _ hw162_0)).trans hw162_0)) (fun hHeld => ?_); refine with_tabW path_paths.tab6 path_paths.bits6 (fun HT_ HW_ => ?_)
         generalize wr.drew = w38 at HO_5 HO_6 HO_7 HB hx162_0 hHeld ⊢
         refine pure_ (i := 0) (N := some 16) (v := ?_) (a' := ?_) #[true, false, false, false, false, false, false, false, false, false, false, false, false] rfl rfl (any_of HT_.out (by kernel_rfl)) (fun _ _ _ h => h) (Or.inl ⟨by rfl, ?_⟩) ?_ ?_
         rotate_left
         ·intro w'
          go_simp
          with_reducible rfl
         rotate_left
         ·simp only [Act.put, List.setIfInBounds_toArray, List.set_cons_zero, List.set_cons_succ, i64_w, i32_w]
          rfl
         refine pure_ (i := 1) (N := some 17) (v := ?_) (a' := ?_) #[true, true, false, false, false, false, false, false, false, false, false, false, false] rfl rfl (any_of HT_.out (by kernel_rfl)) (fun _ _ _ h => h) (Or.inl ⟨by rfl, ?_⟩) ?_ ?_
         rotate_left
         ·intro w'
          go_simp
          with_reducible rfl
         rotate_left
         ·simp only [Act.put, List.setIfInBounds_toArray, List.set_cons_zero, List.set_cons_succ, i64_w, i32_w]
          rfl
         refine pure_ (i := 3) (N := some 19) (v := ?_) (a' := ?_) #[true, true, false, true, false, false, false, false, false, false, false, false, false] rfl rfl (any_of HT_.out (by kernel_rfl)) (fun _ _ _ h => h) (Or.inl ⟨by rfl, ?_⟩) ?_ ?_
         rotate_left
         ·intro w'
          go_simp
          with_reducible rfl
         rotate_left
         ·simp only [Act.put, List.setIfInBounds_toArray, List.set_cons_zero, List.set_cons_succ, i64_w, i32_w]
          rfl
         refine pure_ (i := 4) (N := some 20) (v := ?_) (a' := ?_) #[true, true, false, true, true, false, false, false, false, false, false, false, false] rfl rfl (any_of HT_.out (by kernel_rfl)) (fun _ _ _ h => h) (Or.inl ⟨by rfl, ?_⟩) ?_ ?_
         rotate_left
         ·intro w'
          go_simp
          with_reducible rfl
         rotate_left
         ·simp only [Act.put, List.setIfInBounds_toArray, List.set_cons_zero, List.set_cons_succ, i64_w, i32_w]
          rfl
         refine pure_ (i := 5) (N := some 21) (v := ?_) (a' := ?_) #[true, true, false, true, true, true, false, false, false, false, false, false, false] rfl rfl (any_of HT_.out (by kernel_rfl)) (fun _ _ _ h => h) (Or.inl ⟨by rfl, ?_⟩) ?_ ?_
         rotate_left
         ·intro w'
          go_simp
          with_reducible rfl
         rotate_left
         ·simp only [Act.put, List.setIfInBounds_toArray, List.set_cons_zero, List.set_cons_succ, i64_w, i32_w]
          rfl
         refine take_ (i := 6) (N := some 22) (v := ?_) (a' := ?_) #[true, true, false, true, true, true, true, false, false, false, false, false, false] rfl rfl (take_ofW HT_.out HW_.out (by kernel_rfl)) (fun _ _ _ h => h) (Or.inl ⟨by rfl, ?_⟩) hHeld ?_ ?_
         rotate_left
         ·intro w' s0
          go_simp
          with_reducible rfl
         rotate_left
         ·simp only [Act.put, List.setIfInBounds_toArray, List.set_cons_zero, List.set_cons_succ, i64_w, i32_w]
          rfl
         refine pure_ (i := 7) (N := some 23) (v := ?_) (a' := ?_) #[true, true, false, true, true, true, true, true, false, false, false, false, false] rfl rfl (any_of HT_.out (by kernel_rfl)) (fun _ _ _ h => h) (Or.inl ⟨by rfl, ?_⟩) ?_ ?_
         rotate_left
         ·intro w'
          go_simp
          with_reducible rfl
         rotate_left
         ·simp only [Act.put, List.setIfInBounds_toArray, List.set_cons_zero, List.set_cons_succ, i64_w, i32_w]
          rfl
         refine join_ (σ := Value × Value) 4 #[true, true, true, true, true, true, true, true, true, false, false, false, false] (fun s_ => [(18, s_.1), (24, s_.2)]) (fun s_ w' => (w'.cell? (ad162.add (x8_1).toNat) = some (.int .i64 (rd l1 x8_1))) ∧ (Kd.R (Kd.int .i64) 3 w' w.heap.size (fun k_ => (w.heap.size ≤ k_) ∧ some k_ ≠ (s_.2 : Value).ownBlock ∧ some k_ ≠ (.slice Ao36 x6_1.length co36 : Value).ownBlock ∧ some k_ ≠ (u7 : Value).ownBlock) s_.1 t159) ∧ (Kd.R (Kd.int .i64) 3 w' w.heap.size (fun k_ => (w.heap.size ≤ k_) ∧ some k_ ≠ (s_.1 : Value).ownBlock ∧ some k_ ≠ (.slice Ao36 x6_1.length co36 : Value).ownBlock ∧ some k_ ≠ (u7 : Value).ownBlock) s_.2 y163) ∧ (Kd.N (Kd.slice 3 (Kd.int .i64)) 23 w' w.heap.size (fun k_ => (w.heap.size ≤ k_) ∧ some k_ ≠ (s_.1 : Value).ownBlock ∧ some k_ ≠ (s_.2 : Value).ownBlock ∧ some k_ ≠ (.slice Ao36 x6_1.length co36 : Value).ownBlock ∧ some k_ ≠ (u7 : Value).ownBlock) (.slice Ao37 x5_1.length co37) x5_1) ∧ (Kd.R (Kd.int .i64) 3 w' w.heap.size (fun k_ => (w.heap.size ≤ k_) ∧ some k_ ≠ (s_.1 : Value).ownBlock ∧ some k_ ≠ (s_.2 : Value).ownBlock ∧ some k_ ≠ (u7 : Value).ownBlock) (.slice Ao36 x6_1.length co36) x6_1) ∧ (Kd.R (Kd.int .i64) 3 w' w.heap.size (fun k_ => (w.heap.size ≤ k_) ∧ some k_ ≠ (s_.1 : Value).ownBlock ∧ some k_ ≠ (s_.2 : Value).ownBlock ∧ some k_ ≠ (.slice Ao36 x6_1.length co36 : Value).ownBlock) u7 x7_1) ∧ (Below w.heap.size w w')) ?_ ?_
         rotate_left
         ·intro hCont
          refine two_ (i := 2) (j := 8) (Ni := some 18) (Nj := some 24) #[true, true, true, true, true, true, true, true, false, false, false, false, false] #[true, true, false, true, true, true, true, true, true, false, false, false, false] rfl rfl rfl rfl (two_of HT_.out (by kernel_rfl)) (by decide) (by decide) (fun K hK => ?_) (fun K hK => ?_)
          ·skip
           refine goes_ Tryd.func38 (by kernel_rfl) rfl #[.slice Ao36 x6_1.length co36] (by rfl) rfl rfl mA ?_
           with_reducible refine (slices_Clone_int_int.calls _ _ x6_1 t159 _ ?side1 ?side2 A4.out).mono ?_
           (case side1 => exact cK ((Kd.R_reads' HO_6.out).2.2))
           (case side2 => exact (Kd.R_reads' HO_6.out).2.1)
           rintro e w39 ⟨v160, rfl, ho0, hb⟩
           refine ⟨_, rfl, ?_⟩
           have n0_ := Aside0.mk (Kd.N_elder' (nK HO_5) (Kd.R_base ho0) hb)
           have n1_ := Aside0.mk (Kd.R_elder' (rK HO_6) (Kd.R_base ho0) hb)
           have n2_ := Aside0.mk (Kd.R_elder' (rK HO_7) (Kd.R_base ho0) hb)
           have n3_ := Aside0.mk (Kd.R_lower (Kd.R_new' (Kd.R_new' (Kd.R_newM (M := fun k_ => (w.heap.size ≤ k_)) ho0 (below_size bB) (fun k_ h_ => h_)) (Kd.R_lt (rK HO_6))) (Kd.R_lt (rK HO_7))) (below_size bB))
           have n4_ := Aside0.mk (below_step bB hb)
           clear HO_5 HO_6 HO_7 HB
           have HO_5 := n0_
           have HO_6 := n1_
           have HO_7 := n2_
           have HO161 := n3_
           have HB := n4_
           clear n0_ n1_ n2_ n3_ n4_
           (try clear hb)
           (try clear hb2)
           (try clear hk)
           (try clear hi)
           (try clear ho0)
           refine hK.out _ _ (((HB.out.cell (World.block_lt_of_cell? w _ hw162_0)).trans hw162_0)) (fun hHeld => ?_)
           clear hK K
           refine norm_ (a' := ?_) ?_ ?_
           rotate_left
           ·show Act.put _ (some 18) _ = _
            simp only [Act.put, List.setIfInBounds_toArray, List.set_cons_zero, List.set_cons_succ, i64_w, i32_w]
            rfl
           refine one_ (i := 8) (N := some 24) #[true, true, true, true, true, true, true, true, true, false, false, false, false] rfl rfl (one_of HT_.out (by kernel_rfl)) (by decide) (fun K hK => ?_)
           refine Kd.R_lit_step (Kd.int .i64) _ 3 ?hg (N := 24) ?hd (xs := ([ji7] : List Int)) (inner := [.int .i64 ji7]) (ok := fun _ => True) (okp := fun _ => True) ?hr ?hp (fun _ hk => hk) trivial (Below.refl _ _) (Nat.le_refl _) (by simp) ?_; (case hd => rfl); (case hg => rfl); (case hr => first | (go_simp; done) | (go_simp; rfl)); (case hp => exact (Reps.one (show Kd.M (Kd.int .i64) _ _ _ ji7 [.int .i64 ji7] from rfl) (Reps.none _ _)))
           intro v164 w40 ho41 hb hg_ hnew_
           clear hg_ hnew_
           (first | rw [← Ny163.out] at ho41 | (simp only [Int.reduceToNat] at ho41; rw [← Ny163.out] at ho41))
           have n0_ := Aside0.mk (Kd.N_elder' (nK HO_5) (Kd.R_base ho41) hb)
           have n1_ := Aside0.mk (Kd.R_elder' (rK HO_6) (Kd.R_base ho41) hb)
           have n2_ := Aside0.mk (Kd.R_elder' (rK HO_7) (Kd.R_base ho41) hb)
           have n3_ := Aside0.mk (Kd.R_elder' (rK HO161) (Kd.R_base ho41) hb)
           have n4_ := Aside0.mk (Kd.R_lower (Kd.R_new' (Kd.R_new' (Kd.R_new' (Kd.R_newM (M := fun k_ => (w.heap.size ≤ k_)) ho41 (below_size bB) (fun k_ h_ => h_)) (Kd.R_lt (rK HO_6))) (Kd.R_lt (rK HO_7))) (Kd.R_lt (rK HO161))) (below_size bB))
           have n5_ := Aside0.mk (below_step bB hb)
           clear HO_5 HO_6 HO_7 HO161 HB
           have HO_5 := n0_
           have HO_6 := n1_
           have HO_7 := n2_
           have HO161 := n3_
           have HO165 := n4_
           have HB := n5_
           clear n0_ n1_ n2_ n3_ n4_ n5_ hb ho41
           refine hK.out _ _ (((HB.out.cell (World.block_lt_of_cell? w _ hw162_0)).trans hw162_0)) (fun hHeld => ?_)
           clear hK K
           refine norm_ (a' := ?_) ?_ ?_
           rotate_left
           ·show Act.put _ (some 24) _ = _
            simp only [Act.put, List.setIfInBounds_toArray, List.set_cons_zero, List.set_cons_succ, i64_w, i32_w]
            rfl
           exact norm_ (by simp only [putAll, Act.put, List.setIfInBounds_toArray, List.set_cons_zero, List.set_cons_succ]) (hCont (v160, v164) _ ⟨hHeld, (by (with_reducible repeat (first | apply Kd.R_alloc | apply Kd.R_drewN | apply Kd.R_drew)); exact Kd.R_mono HO161.out (fun _ hk => ⟨hk.1.1.1.1, ⟨hk.2, ⟨hk.1.1.2, hk.1.2⟩⟩⟩)), (by (with_reducible repeat (first | apply Kd.R_alloc | apply Kd.R_drewN | apply Kd.R_drew)); exact Kd.R_mono HO165.out (fun _ hk => ⟨hk.1.1.1.1, ⟨hk.2, ⟨hk.1.1.2, hk.1.2⟩⟩⟩)), (by (with_reducible repeat (first | apply Kd.N_alloc | apply Kd.N_drewN | apply Kd.N_drew)); exact Kd.N_mono HO_5.out (fun _ hk => ⟨hk.1.1.1, ⟨hk.1.2, ⟨hk.2, ⟨hk.1.1.2.1, hk.1.1.2.2⟩⟩⟩⟩)), (by (with_reducible repeat (first | apply Kd.R_alloc | apply Kd.R_drewN | apply Kd.R_drew)); exact Kd.R_mono HO_6.out (fun _ hk => ⟨hk.1.1.1, ⟨hk.1.2, ⟨hk.2, hk.1.1.2⟩⟩⟩)), (by (with_reducible repeat (first | apply Kd.R_alloc | apply Kd.R_drewN | apply Kd.R_drew)); exact Kd.R_mono HO_7.out (fun _ hk => ⟨hk.1.1.1, ⟨hk.1.2, ⟨hk.2, hk.1.1.2⟩⟩⟩)), bB⟩)
          ·skip
           refine Kd.R_lit_step (Kd.int .i64) _ 3 ?hg (N := 24) ?hd (xs := ([ji7] : List Int)) (inner := [.int .i64 ji7]) (ok := fun _ => True) (okp := fun _ => True) ?hr ?hp (fun _ hk => hk) trivial (Below.refl _ _) (Nat.le_refl _) (by simp) ?_; (case hd => rfl); (case hg => rfl); (case hr => first | (go_simp; done) | (go_simp; rfl)); (case hp => exact (Reps.one (show Kd.M (Kd.int .i64) _ _ _ ji7 [.int .i64 ji7] from rfl) (Reps.none _ _)))
           intro v164 w39 ho40 hb hg_ hnew_
           clear hg_ hnew_
           (first | rw [← Ny163.out] at ho40 | (simp only [Int.reduceToNat] at ho40; rw [← Ny163.out] at ho40))
           have n0_ := Aside0.mk (Kd.N_elder' (nK HO_5) (Kd.R_base ho40) hb)
           have n1_ := Aside0.mk (Kd.R_elder' (rK HO_6) (Kd.R_base ho40) hb)
           have n2_ := Aside0.mk (Kd.R_elder' (rK HO_7) (Kd.R_base ho40) hb)
           have n3_ := Aside0.mk (Kd.R_lower (Kd.R_new' (Kd.R_new' (Kd.R_newM (M := fun k_ => (w.heap.size ≤ k_)) ho40 (below_size bB) (fun k_ h_ => h_)) (Kd.R_lt (rK HO_6))) (Kd.R_lt (rK HO_7))) (below_size bB))
           have n4_ := Aside0.mk (below_step bB hb)
           clear HO_5 HO_6 HO_7 HB
           have HO_5 := n0_
           have HO_6 := n1_
           have HO_7 := n2_
           have HO165 := n3_
           have HB := n4_
           clear n0_ n1_ n2_ n3_ n4_ hb ho40
           refine hK.out _ _ (((HB.out.cell (World.block_lt_of_cell? w _ hw162_0)).trans hw162_0)) (fun hHeld => ?_)
           clear hK K
           refine norm_ (a' := ?_) ?_ ?_
           rotate_left
           ·show Act.put _ (some 24) _ = _
            simp only [Act.put, List.setIfInBounds_toArray, List.set_cons_zero, List.set_cons_succ, i64_w, i32_w]
            rfl
           refine one_ (i := 2) (N := some 18) #[true, true, true, true, true, true, true, true, true, false, false, false, false] rfl rfl (one_of HT_.out (by kernel_rfl)) (by decide) (fun K hK => ?_)
           refine goes_ Tryd.func38 (by kernel_rfl) rfl #[.slice Ao36 x6_1.length co36] (by rfl) rfl rfl mA ?_
           with_reducible refine (slices_Clone_int_int.calls _ _ x6_1 t159 _ ?side1 ?side2 A4.out).mono ?_
           (case side1 => exact cK ((Kd.R_reads' HO_6.out).2.2))
           (case side2 => exact (Kd.R_reads' HO_6.out).2.1)
           rintro e w41 ⟨v160, rfl, ho0, hb⟩
           refine ⟨_, rfl, ?_⟩
           have n0_ := Aside0.mk (Kd.N_elder' (nK HO_5) (Kd.R_base ho0) hb)
           have n1_ := Aside0.mk (Kd.R_elder' (rK HO_6) (Kd.R_base ho0) hb)
           have n2_ := Aside0.mk (Kd.R_elder' (rK HO_7) (Kd.R_base ho0) hb)
           have n3_ := Aside0.mk (Kd.R_elder' (rK HO165) (Kd.R_base ho0) hb)
           have n4_ := Aside0.mk (Kd.R_lower (Kd.R_new' (Kd.R_new' (Kd.R_new' (Kd.R_newM (M := fun k_ => (w.heap.size ≤ k_)) ho0 (below_size bB) (fun k_ h_ => h_)) (Kd.R_lt (rK HO_6))) (Kd.R_lt (rK HO_7))) (Kd.R_lt (rK HO165))) (below_size bB))
           have n5_ := Aside0.mk (below_step bB hb)
           clear HO_5 HO_6 HO_7 HO165 HB
           have HO_5 := n0_
           have HO_6 := n1_
           have HO_7 := n2_
           have HO165 := n3_
           have HO161 := n4_
           have HB := n5_
           clear n0_ n1_ n2_ n3_ n4_ n5_
           (try clear hb)
           (try clear hb2)
           (try clear hk)
           (try clear hi)
           (try clear ho0)
           refine hK.out _ _ (((HB.out.cell (World.block_lt_of_cell? w _ hw162_0)).trans hw162_0)) (fun hHeld => ?_)
           clear hK K
           refine norm_ (a' := ?_) ?_ ?_
           rotate_left
           ·show Act.put _ (some 18) _ = _
            simp only [Act.put, List.setIfInBounds_toArray, List.set_cons_zero, List.set_cons_succ, i64_w, i32_w]
            rfl
           exact norm_ (by simp only [putAll, Act.put, List.setIfInBounds_toArray, List.set_cons_zero, List.set_cons_succ]) (hCont (v160, v164) _ ⟨hHeld, (by (with_reducible repeat (first | apply Kd.R_alloc | apply Kd.R_drewN | apply Kd.R_drew)); exact Kd.R_mono HO161.out (fun _ hk => ⟨hk.1.1.1.1, ⟨hk.2, ⟨hk.1.1.2, hk.1.2⟩⟩⟩)), (by (with_reducible repeat (first | apply Kd.R_alloc | apply Kd.R_drewN | apply Kd.R_drew)); exact Kd.R_mono HO165.out (fun _ hk => ⟨hk.1.1.1.1, ⟨hk.2, ⟨hk.1.1.2, hk.1.2⟩⟩⟩)), (by (with_reducible repeat (first | apply Kd.N_alloc | apply Kd.N_drewN | apply Kd.N_drew)); exact Kd.N_mono HO_5.out (fun _ hk => ⟨hk.1.1.1, ⟨hk.2, ⟨hk.1.2, ⟨hk.1.1.2.1, hk.1.1.2.2⟩⟩⟩⟩)), (by (with_reducible repeat (first | apply Kd.R_alloc | apply Kd.R_drewN | apply Kd.R_drew)); exact Kd.R_mono HO_6.out (fun _ hk => ⟨hk.1.1.1, ⟨hk.2, ⟨hk.1.2, hk.1.1.2⟩⟩⟩)), (by (with_reducible repeat (first | apply Kd.R_alloc | apply Kd.R_drewN | apply Kd.R_drew)); exact Kd.R_mono HO_7.out (fun _ hk => ⟨hk.1.1.1, ⟨hk.2, ⟨hk.1.2, hk.1.1.2⟩⟩⟩)), bB⟩)
         rintro ⟨v160, v164⟩ w42 ⟨hS_, h0_, h1_, h2_, h3_, h4_, h5_⟩
         have n0_ : Aside0 (Kd.R (Kd.int .i64) 3 w42 w.heap.size (fun k_ => (w.heap.size ≤ k_) ∧ some k_ ≠ (v164 : Value).ownBlock ∧ some k_ ≠ (.slice Ao36 x6_1.length co36 : Value).ownBlock ∧ some k_ ≠ (u7 : Value).ownBlock) v160 t159) := ⟨h0_⟩
         have n1_ : Aside0 (Kd.R (Kd.int .i64) 3 w42 w.heap.size (fun k_ => (w.heap.size ≤ k_) ∧ some k_ ≠ (v160 : Value).ownBlock ∧ some k_ ≠ (.slice Ao36 x6_1.length co36 : Value).ownBlock ∧ some k_ ≠ (u7 : Value).ownBlock) v164 y163) := ⟨h1_⟩
         have n2_ : Aside0 (Kd.N (Kd.slice 3 (Kd.int .i64)) 23 w42 w.heap.size (fun k_ => (w.heap.size ≤ k_) ∧ some k_ ≠ (v160 : Value).ownBlock ∧ some k_ ≠ (v164 : Value).ownBlock ∧ some k_ ≠ (.slice Ao36 x6_1.length co36 : Value).ownBlock ∧ some k_ ≠ (u7 : Value).ownBlock) (.slice Ao37 x5_1.length co37) x5_1) := ⟨h2_⟩
         have n3_ : Aside0 (Kd.R (Kd.int .i64) 3 w42 w.heap.size (fun k_ => (w.heap.size ≤ k_) ∧ some k_ ≠ (v160 : Value).ownBlock ∧ some k_ ≠ (v164 : Value).ownBlock ∧ some k_ ≠ (u7 : Value).ownBlock) (.slice Ao36 x6_1.length co36) x6_1) := ⟨h3_⟩
         have n4_ : Aside0 (Kd.R (Kd.int .i64) 3 w42 w.heap.size (fun k_ => (w.heap.size ≤ k_) ∧ some k_ ≠ (v160 : Value).ownBlock ∧ some k_ ≠ (v164 : Value).ownBlock ∧ some k_ ≠ (.slice Ao36 x6_1.length co36 : Value).ownBlock) u7 x7_1) := ⟨h4_⟩
         have n5_ : Aside0 (Below w.heap.size w w42) := ⟨h5_⟩
         clear HO_5 HO_6 HO_7 HB h0_ h1_ h2_ h3_ h4_ h5_
         have HO161 := n0_
         have HO165 := n1_
         have HO_5 := n2_
         have HO_6 := n3_
         have HO_7 := n4_
         have HB := n5_
         clear n0_ n1_ n2_ n3_ n4_ n5_
         have hHeld : w42.cell? (ad162.add (x8_1).toNat) = some (.int .i64 (rd l1 x8_1)) := hS_
         obtain ⟨Ao44, co44, eo44⟩ := Kd.R_slice HO165.out
         (first | subst eo44 | (injection eo44 with f1_ f2_ f3_; have f4_ := f1_.symm; have f5_ := f3_.symm; clear f1_ f2_ f3_; subst f4_; subst f5_))
         refine norm_ (a' := ?_) ?_ ?_
         rotate_left
         ·simp only [putAll, Act.put, List.setIfInBounds_toArray, List.set_cons_zero, List.set_cons_succ]
          rfl
         refine one_ (i := 9) (N := some 25) #[true, true, true, true, true, true, true, true, true, true, false, false, false] rfl rfl (one_of HT_.out (by kernel_rfl)) (by decide) (fun K hK => ?_)
         refine Kd.R_append_rows_step (Kd.int .i64) (w0 := w) w.heap.size (by rfl) (.tmp 18) (.tmp 24) 23 3 (.int .i64 0) 8 rfl Tryd.underlying23 info3 rfl (by decide) (by omega) v160 t159 y163 _ _ _ (fun k_ => (w.heap.size ≤ k_) ∧ some k_ ≠ (.slice Ao36 x6_1.length co36 : Value).ownBlock ∧ some k_ ≠ (u7 : Value).ownBlock ∧ some k_ ≠ (.slice Ao44 y163.length co44 : Value).ownBlock) (fun _ => False) rfl rfl ?aO ?aR (fun _ _ h => h) (fun _ h => h.elim) ?aF ?aB ?aS ?aL ?_
         (case aR => exact cK ((Kd.R_reads' HO165.out).2.2))
         (case aB => exact bB)
         (case aF => exact (fun k_ hk => ⟨(Nat.le_trans (below_size bB) hk), Kd.fresh' (Kd.R_lt (rK HO_6)) k_ hk, Kd.fresh' (Kd.R_lt (rK HO_7)) k_ hk, Kd.fresh' (Kd.R_lt (rK HO165)) k_ hk⟩))
         (case aO => exact (by (with_reducible repeat (first | apply Kd.R_alloc | apply Kd.R_drewN | apply Kd.R_drew)); exact Kd.R_mono HO161.out (fun _ hk => ⟨hk.1, ⟨hk.2.2.1, ⟨hk.2.2.2, hk.2.1⟩⟩⟩)))
         (case aS => exact (below_size bB))
         (case aL => have := LMc8.out; omega)
         intro v167 w43 ho hb hg hat
         rw [← Ny166.out] at ho
         have n0_ := Aside0.mk (Kd.N_afterv (ok := (fun k_ => (w.heap.size ≤ k_) ∧ some k_ ≠ (.slice Ao36 x6_1.length co36 : Value).ownBlock ∧ some k_ ≠ (u7 : Value).ownBlock ∧ some k_ ≠ (.slice Ao44 y163.length co44 : Value).ownBlock)) (by (with_reducible repeat (first | apply Kd.N_alloc | apply Kd.N_drewN | apply Kd.N_drew)); exact Kd.N_mono HO_5.out (fun _ hk => ⟨⟨hk.1, ⟨hk.2.2.2.1, ⟨hk.2.2.2.2, hk.2.2.1⟩⟩⟩, hk.2.1⟩)) hg hat)
         have n1_ := Aside0.mk (Kd.R_after (ok := (fun k_ => (w.heap.size ≤ k_) ∧ some k_ ≠ (u7 : Value).ownBlock ∧ some k_ ≠ (.slice Ao44 y163.length co44 : Value).ownBlock)) (by (with_reducible repeat (first | apply Kd.R_alloc | apply Kd.R_drewN | apply Kd.R_drew)); exact Kd.R_mono HO_6.out (fun _ hk => ⟨⟨hk.1, ⟨hk.2.2.2, hk.2.2.1⟩⟩, hk.2.1⟩)) hg hat)
         have n2_ := Aside0.mk (Kd.R_after (ok := (fun k_ => (w.heap.size ≤ k_) ∧ some k_ ≠ (.slice Ao36 x6_1.length co36 : Value).ownBlock ∧ some k_ ≠ (.slice Ao44 y163.length co44 : Value).ownBlock)) (by (with_reducible repeat (first | apply Kd.R_alloc | apply Kd.R_drewN | apply Kd.R_drew)); exact Kd.R_mono HO_7.out (fun _ hk => ⟨⟨hk.1, ⟨hk.2.2.2, hk.2.2.1⟩⟩, hk.2.1⟩)) hg hat)
         have n3_ := Aside0.mk (Kd.R_after (ok := (fun k_ => (w.heap.size ≤ k_) ∧ some k_ ≠ (.slice Ao36 x6_1.length co36 : Value).ownBlock ∧ some k_ ≠ (u7 : Value).ownBlock)) (by (with_reducible repeat (first | apply Kd.R_alloc | apply Kd.R_drewN | apply Kd.R_drew)); exact Kd.R_mono HO165.out (fun _ hk => ⟨⟨hk.1, ⟨hk.2.2.1, hk.2.2.2⟩⟩, hk.2.1⟩)) hg hat)
         have n4_ := Aside0.mk (hb)
         have n5_ := Aside0.mk (ho)
         clear HO_5 HO_6 HO_7 HO165 HB HO161
         have HO_5 := n0_
         have HO_6 := n1_
         have HO_7 := n2_
         have HO165 := n3_
         have HB := n4_
         have HO168 := n5_
         clear n0_ n1_ n2_ n3_ n4_ n5_ ho hb hg hat
         obtain ⟨Ao45, co45, eo45⟩ := Kd.R_slice HO168.out
         (first | subst eo45 | (injection eo45 with f1_ f2_ f3_; have f4_ := f1_.symm; have f5_ := f3_.symm; clear f1_ f2_ f3_; subst f4_; subst f5_))
         refine hK.out _ _ (((HB.out.cell (World.block_lt_of_cell? w _ hw162_0)).trans hw162_0)) (fun hHeld => ?_)
         clear hK K
         refine norm_ (a' := ?_) ?_ ?_
         rotate_left
         ·show Act.put _ (some 25) _ = _
          simp only [Act.put, List.setIfInBounds_toArray, List.set_cons_zero, List.set_cons_succ, i64_w, i32_w]
          rfl
         refine one_ (i := 10) (N := some 26) #[true, true, true, true, true, true, true, true, true, true, true, false, false] rfl rfl (one_of HT_.out (by kernel_rfl)) (by decide) (fun K hK => ?_)
         refine Kd.N_lit_step (Kd.slice 3 (Kd.int .i64)) _ 23 ?hg (N' := 26) ?hd (xs := ([y166] : List (List Int))) (inner := [.slice Ao45 y166.length co45]) (ok := (fun k_ => (w.heap.size ≤ k_) ∧ some k_ ≠ (.slice Ao37 x5_1.length co37 : Value).ownBlock ∧ some k_ ≠ (.slice Ao36 x6_1.length co36 : Value).ownBlock ∧ some k_ ≠ (u7 : Value).ownBlock ∧ some k_ ≠ (.slice Ao44 y163.length co44 : Value).ownBlock)) (okp := (fun k_ => (w.heap.size ≤ k_) ∧ some k_ ≠ (.slice Ao37 x5_1.length co37 : Value).ownBlock ∧ some k_ ≠ (.slice Ao36 x6_1.length co36 : Value).ownBlock ∧ some k_ ≠ (u7 : Value).ownBlock ∧ some k_ ≠ (.slice Ao44 y163.length co44 : Value).ownBlock)) ?hr ?hp (fun _ hk => hk) ((show ∀ k_, w43.heap.size ≤ k_ → (fun k_ => (w.heap.size ≤ k_) ∧ some k_ ≠ (.slice Ao37 x5_1.length co37 : Value).ownBlock ∧ some k_ ≠ (.slice Ao36 x6_1.length co36 : Value).ownBlock ∧ some k_ ≠ (u7 : Value).ownBlock ∧ some k_ ≠ (.slice Ao44 y163.length co44 : Value).ownBlock) k_ from fun k_ hk => ⟨(Nat.le_trans (below_size bB) hk), Kd.fresh' (Kd.N_lt (nK HO_5)) k_ hk, Kd.fresh' (Kd.R_lt (rK HO_6)) k_ hk, Kd.fresh' (Kd.R_lt (rK HO_7)) k_ hk, Kd.fresh' (Kd.R_lt (rK HO165)) k_ hk⟩) _ (Nat.le_refl _)) (Below.refl _ _) (Nat.le_refl _) (by simp) ?_; (case hd => rfl); (case hg => rfl); (case hr => first | (go_simp; done) | (go_simp; rfl)); (case hp => exact (Reps.one (show Kd.FK (Kd.slice 3 (Kd.int .i64)) _ _ y166 [.slice Ao45 y166.length co45] from (Kd.FK_slice_mk (Kd.R_reads' (Kd.R_mono (ok' := (fun k_ => (w.heap.size ≤ k_) ∧ some k_ ≠ (.slice Ao37 x5_1.length co37 : Value).ownBlock ∧ some k_ ≠ (.slice Ao36 x6_1.length co36 : Value).ownBlock ∧ some k_ ≠ (u7 : Value).ownBlock ∧ some k_ ≠ (.slice Ao44 y163.length co44 : Value).ownBlock)) (Kd.R_apart' (HO168.out) (Kd.N_typed HO_5.out) (by decide)) (fun k_ hk => ⟨hk.1.1, ⟨hk.2, ⟨hk.1.2.1, ⟨hk.1.2.2.1, hk.1.2.2.2⟩⟩⟩⟩))).2.1 (Kd.R_F (Kd.R_mono (ok' := (fun k_ => (w.heap.size ≤ k_) ∧ some k_ ≠ (.slice Ao37 x5_1.length co37 : Value).ownBlock ∧ some k_ ≠ (.slice Ao36 x6_1.length co36 : Value).ownBlock ∧ some k_ ≠ (u7 : Value).ownBlock ∧ some k_ ≠ (.slice Ao44 y163.length co44 : Value).ownBlock)) (Kd.R_apart' (HO168.out) (Kd.N_typed HO_5.out) (by decide)) (fun k_ hk => ⟨hk.1.1, ⟨hk.2, ⟨hk.1.2.1, ⟨hk.1.2.2.1, hk.1.2.2.2⟩⟩⟩⟩))))) (Reps.none _ _)))
         intro v170 w46 ho47 hb hg_ hnew_
         clear hg_ hnew_
         (first | rw [← Ny169.out] at ho47 | (simp only [Int.reduceToNat] at ho47; rw [← Ny169.out] at ho47))
         have n0_ := Aside0.mk (Kd.N_elder' (nK HO_5) (Kd.N_base ho47) hb)
         have n1_ := Aside0.mk (Kd.R_below (rK HO_6) hb)
         have n2_ := Aside0.mk (Kd.R_below (rK HO_7) hb)
         have n3_ := Aside0.mk (Kd.R_below (rK HO165) hb)
         have n4_ := Aside0.mk (Kd.N_lower ho47 (below_size bB))
         have n5_ := Aside0.mk (below_step bB hb)
         clear HO_5 HO_6 HO_7 HO165 HB HO168
         have HO_5 := n0_
         have HO_6 := n1_
         have HO_7 := n2_
         have HO165 := n3_
         have HO171 := n4_
         have HB := n5_
         clear n0_ n1_ n2_ n3_ n4_ n5_ hb ho47
         obtain ⟨Ao49, co49, eo49⟩ := Kd.N_slice HO171.out
         (first | subst eo49 | (injection eo49 with f1_ f2_ f3_; have f4_ := f1_.symm; have f5_ := f3_.symm; clear f1_ f2_ f3_; subst f4_; subst f5_))
         refine hK.out _ _ (((HB.out.cell (World.block_lt_of_cell? w _ hw162_0)).trans hw162_0)) (fun hHeld => ?_)
         clear hK K
         refine norm_ (a' := ?_) ?_ ?_
         rotate_left
         ·show Act.put _ (some 26) _ = _
          simp only [Act.put, List.setIfInBounds_toArray, List.set_cons_zero, List.set_cons_succ, i64_w, i32_w]
          rfl
         refine one_ (i := 11) (N := some 27) #[true, true, true, true, true, true, true, true, true, true, true, true, false] rfl rfl (one_of HT_.out (by kernel_rfl)) (by decide) (fun K hK => ?_)
         refine Kd.N_append_rows_step (Kd.slice 3 (Kd.int .i64)) (w0 := w) w.heap.size (by rfl) (.tmp 16) (.tmp 26) 25 23 (.slice none 0 0) 24 rfl Tryd.underlying25 info23 rfl (by decide) (by omega) (.slice Ao37 x5_1.length co37) x5_1 y169 _ _ _ (fun k_ => (w.heap.size ≤ k_) ∧ some k_ ≠ (.slice Ao36 x6_1.length co36 : Value).ownBlock ∧ some k_ ≠ (u7 : Value).ownBlock ∧ some k_ ≠ (.slice Ao44 y163.length co44 : Value).ownBlock) (fun k_ => ((fun k_ => (w.heap.size ≤ k_) ∧ some k_ ≠ (.slice Ao36 x6_1.length co36 : Value).ownBlock ∧ some k_ ≠ (u7 : Value).ownBlock ∧ some k_ ≠ (.slice Ao44 y163.length co44 : Value).ownBlock)) k_ ∧ some k_ ≠ (.slice Ao37 x5_1.length co37 : Value).ownBlock) rfl rfl ?aO ?aR (fun _ hk => hk) ?aF ?aB ?aS ?aL ?_
         (case aR => exact (by skip; exact Kd.N_F (Kd.N_mono (ok' := (fun k_ => ((fun k_ => (w.heap.size ≤ k_) ∧ some k_ ≠ (.slice Ao36 x6_1.length co36 : Value).ownBlock ∧ some k_ ≠ (u7 : Value).ownBlock ∧ some k_ ≠ (.slice Ao44 y163.length co44 : Value).ownBlock)) k_ ∧ some k_ ≠ (.slice Ao37 x5_1.length co37 : Value).ownBlock)) (HO171.out) (fun k_ hk => ⟨⟨hk.1, ⟨hk.2.2.1, ⟨hk.2.2.2.1, hk.2.2.2.2⟩⟩⟩, hk.2.1⟩))))
         (case aB => exact bB)
         (case aF => exact (fun k_ hk => ⟨(Nat.le_trans (below_size bB) hk), Kd.fresh' (Kd.R_lt (rK HO_6)) k_ hk, Kd.fresh' (Kd.R_lt (rK HO_7)) k_ hk, Kd.fresh' (Kd.R_lt (rK HO165)) k_ hk⟩))
         (case aO => exact (by (with_reducible repeat (first | apply Kd.N_alloc | apply Kd.N_drewN | apply Kd.N_drew)); exact Kd.N_mono HO_5.out (fun _ hk => ⟨hk.1.1.1, ⟨hk.1.1.2.1, ⟨hk.1.1.2.2.1, hk.1.1.2.2.2⟩⟩⟩)))
         (case aS => exact (below_size bB))
         (case aL => have := LMc9.out; omega)
         intro v173 w48 ho hb hg hat
         rw [← Ny172.out] at ho
         have n0_ := Aside0.mk (Kd.R_over' (rK HO_6) (Kd.N_typed (nK HO_5)) (by decide) hg)
         have n1_ := Aside0.mk (Kd.R_over' (rK HO_7) (Kd.N_typed (nK HO_5)) (by decide) hg)
         have n2_ := Aside0.mk (Kd.R_over' (rK HO165) (Kd.N_typed (nK HO_5)) (by decide) hg)
         have n3_ := Aside0.mk (Kd.N_afterv (ok := (fun k_ => (w.heap.size ≤ k_) ∧ some k_ ≠ (.slice Ao36 x6_1.length co36 : Value).ownBlock ∧ some k_ ≠ (u7 : Value).ownBlock ∧ some k_ ≠ (.slice Ao44 y163.length co44 : Value).ownBlock)) (by (with_reducible repeat (first | apply Kd.N_alloc | apply Kd.N_drewN | apply Kd.N_drew)); exact Kd.N_mono HO171.out (fun _ hk => ⟨⟨hk.1, ⟨hk.2.2.1, ⟨hk.2.2.2.1, hk.2.2.2.2⟩⟩⟩, hk.2.1⟩)) hg hat)
         have n4_ := Aside0.mk (hb)
         have n5_ := Aside0.mk (ho)
         clear HO_6 HO_7 HO165 HO171 HB HO_5
         have HO_6 := n0_
         have HO_7 := n1_
         have HO165 := n2_
         have HO171 := n3_
         have HB := n4_
         have HO174 := n5_
         clear n0_ n1_ n2_ n3_ n4_ n5_ ho hb hg hat
         refine hK.out _ _ (((HB.out.cell (World.block_lt_of_cell? w _ hw162_0)).trans hw162_0)) (fun hHeld => ?_)
         clear hK K
         refine norm_ (a' := ?_) ?_ ?_
         rotate_left
         ·show Act.put _ (some 27) _ = _
          simp only [Act.put, List.setIfInBounds_toArray, List.set_cons_zero, List.set_cons_succ, i64_w, i32_w]
          rfl
         refine pure_ (i := 12) (N := some 5) (v := ?_) (a' := ?_) #[true, true, true, true, true, true, true, true, true, true, true, true, true] rfl rfl (any_of HT_.out (by kernel_rfl)) (fun _ _ _ h => h) (Or.inl ⟨by rfl, ?_⟩) ?_ ?_
         rotate_left
         ·intro w'
          go_simp
          with_reducible rfl
         rotate_left
         ·simp only [Act.put, List.setIfInBounds_toArray, List.set_cons_zero, List.set_cons_succ, i64_w, i32_w]
          rfl
         refine done_ (done_of HT_.out (by kernel_rfl)) ?_
         have p175 : 0 ≤ (x8_1 : Int) := of_decide_eq_true aK
         have q175 : x8_1 < (l1.length : Int) := of_decide_eq_true aK
         obtain ⟨ad175, e175, hx175_0⟩ := Kd.at_int HR1.out x8_1 p175 q175
         obtain rfl : ad162 = ad175 := (by injection e175)
         replace hx175_0 := (HB.out.cell (World.block_lt_of_cell? w _ hx175_0)).trans hx175_0
         replace p175 := eq_true p175
         replace q175 := eq_true q175
         try go_wp2_with (first | ((with_reducible refine gate_callee (f := 39) rfl ?_); refine goesL_ (some 33) rfl rfl Tryd.func39 (by kernel_rfl) rfl #[.slice A0 l0.length c0, .int .i64 (rd l1 x8_1)] rfl mA ?_; (with_reducible refine (path_arity.calls _ _ l0 (rd l1 x8_1) t176 _ ?side1 ?side2 A10.out).mono ?_); (case side1 => exact cK (Kd.C_below HR0.out HB.out)); (case side2 => exact HC0.out); rintro e w' ⟨rfl, ⟨nd, rfl⟩⟩; refine ⟨_, rfl, ?_⟩))
         go_step3
         go_step
         go_step
         refine wp_jumped2_inner 0 1 (fun kq a' w' => ∃ u2 u3 u4 u6 u7 u10 u11 u12 u13 u14 u15 u16 u17 u18 u19 u20 u21 u22 u23 u24 u25 u26 u27 u28 u29 u30 u31 u32 u33 u34 u35 u36 u37 u38 u39 u40 u41 u42 u43 u44 u45 u46 u47 u48 u49 u50 u51 u52 u53 u54 u55 u56 u57 u58 u59 u60 u61 u62 u63 u64 u65 u66 u67 u68 u69 u70 u71 u72 u73 u74 u75 u76 : Value, (∃ (x6_2 : List Int) (x7_2 : List Int), Aside0 (path_paths.l1 kq l0 l1 y172 x6_2 x7_2 (wrap64 (x8_1 + 1)) = some r) ∧ Aside0 (kq ≤ k1) ∧ Aside0 (Kd.N (Kd.slice 3 (Kd.int .i64)) 23 w' w.heap.size (fun k_ => (w.heap.size ≤ k_) ∧ some k_ ≠ (u6 : Value).ownBlock ∧ some k_ ≠ (u7 : Value).ownBlock) v173 y172) ∧ Aside0 (Kd.R (Kd.int .i64) 3 w' w.heap.size (fun k_ => (w.heap.size ≤ k_) ∧ some k_ ≠ (u7 : Value).ownBlock) u6 x6_2) ∧ Aside0 (Kd.R (Kd.int .i64) 3 w' w.heap.size (fun k_ => (w.heap.size ≤ k_) ∧ some k_ ≠ (u6 : Value).ownBlock) u7 x7_2) ∧ Aside0 (Below w.heap.size w w')) ∧ a' = ⟨#[.slice A0 l0.length c0, .slice (some ad162) l1.length c1, u2, u3, u4, v173, u6, u7, .int .i64 (wrap64 (x8_1 + 1)), .int .i64 t176, u10, u11, u12, u13, u14, u15, u16, u17, u18, u19, u20, u21, u22, u23, u24, u25, u26, u27, u28, u29, u30, u31, u32, u33, u34, u35, u36, u37, u38, u39, u40, u41, u42, u43, u44, u45, u46, u47, u48, u49, u50, u51, u52, u53, u54, u55, u56, u57, u58, u59, u60, u61, u62, u63, u64, u65, u66, u67, u68, u69, u70, u71, u72, u73, u74, u75, u76], []⟩) k1 ?_ ?_
         ·(repeat apply Exists.intro); refine ⟨?_, rfl⟩
          exact ⟨(x6_1), (x7_1), H', ⟨Nat.le_refl _⟩, ⟨by (with_reducible repeat (first | apply Kd.N_alloc | apply Kd.N_drewN | apply Kd.N_drew)); exact Kd.N_mono HO174.out (fun _ hk => ⟨hk.1, ⟨hk.2.1, hk.2.2.1⟩⟩)⟩, ⟨by (with_reducible repeat (first | apply Kd.R_alloc | apply Kd.R_drewN | apply Kd.R_drew)); exact Kd.R_mono HO_6.out (fun _ hk => ⟨hk.1.1, hk.1.2.1⟩)⟩, ⟨by (with_reducible repeat (first | apply Kd.R_alloc | apply Kd.R_drewN | apply Kd.R_drew)); exact Kd.R_mono HO_7.out (fun _ hk => ⟨hk.1.1, hk.1.2.1⟩)⟩, ⟨bB⟩⟩
         ·intro gk _ wr hinv
          obtain ⟨u2, u3, u4, u6, u7, u10, u11, u12, u13, u14, u15, u16, u17, u18, u19, u20, u21, u22, u23, u24, u25, u26, u27, u28, u29, u30, u31, u32, u33, u34, u35, u36, u37, u38, u39, u40, u41, u42, u43, u44, u45, u46, u47, u48, u49, u50, u51, u52, u53, u54, u55, u56, u57, u58, u59, u60, u61, u62, u63, u64, u65, u66, u67, u68, u69, u70, u71, u72, u73, u74, u75, u76, hrel, ha⟩ := hinv
          subst ha
          try dsimp only
          intro _ _ _ _
          clear H'
          try clear c1
          try clear p1
          try clear q1
          try clear hx1
          try clear p2
          try clear c3
          try clear p3
          try clear p6
          try clear c8
          try clear c9
          try clear c11
          try clear c11b0
          try clear c12
          try clear c13
          try clear p16
          try clear q16
          try clear hx16
          try clear p17
          try clear q17
          try clear hx17
          try clear c38
          try clear c39
          try clear hx162_0
          try clear hx175_0
          try clear p162
          try clear p175
          try clear q162
          try clear q175
          obtain ⟨x6_2, x7_2, HA, HK2, HO_5, HO_6, HO_7, HB⟩ := hrel
          cases gk with
          | zero => exact absurd HA.out (by simp [path_paths.l1])
          | succ k2 =>
           have H := HA.out
           clear HA
           simp only [path_paths.l1] at H
           by_cases c50 : (x7_2.length : Int) = 0
           ·rw [if_pos c50] at H
            have c50b0 : ((x7_2.length : Int) == 0) = true := beq_iff_eq.mpr c50
            have c50b1 : ((x7_2.length : Int) != 0) = false := bne_eq_false_iff_eq.mpr c50
            clear c50
            have H' := Aside0.mk H
            clear H
            obtain ⟨Ao51, co51, eo51⟩ := Kd.R_slice HO_7.out
            subst eo51
            go_wp2
            go_step3
            refine And.intro rfl ?_
            go_step
            go_roundg k2
            case measure => have := HK1.out; have := HK2.out; omega
            case rel => exact ⟨(y172), (x6_2), (x7_2), ((wrap64 (x8_1 + 1))), sK, H', ⟨by have := HK1.out; have := HK2.out; omega⟩, ⟨by (with_reducible repeat (first | apply Kd.N_alloc | apply Kd.N_drewN | apply Kd.N_drew)); exact HO_5.out⟩, ⟨by (with_reducible repeat (first | apply Kd.R_alloc | apply Kd.R_drewN | apply Kd.R_drew)); exact HO_6.out⟩, ⟨by (with_reducible repeat (first | apply Kd.R_alloc | apply Kd.R_drewN | apply Kd.R_drew)); exact HO_7.out⟩, ⟨bB⟩⟩
           ·rw [if_neg c50] at H
            have c50b0 : ((x7_2.length : Int) == 0) = false := beq_eq_false_iff_ne.mpr c50
            have c50b1 : ((x7_2.length : Int) != 0) = true := bne_iff_ne.mpr c50
            have c50b2 : ¬ (x7_2 = []) := fun h_ => c50 (by rw [h_]; rfl)
            obtain ⟨ji52, hji52⟩ : ∃ j_ : Int, (wrap64 ((x7_2.length : Int) - 1)) = j_ := ⟨_, rfl⟩
            replace H : (if 0 ≤ (ji52) then (if (ji52) < (x7_2.length : Int) then (if (rd x7_2 (ji52)) = 0 then (if (ji52) ≤ (x6_2.length : Int) then (if (ji52) ≤ (x7_2.length : Int) then (path_paths.l1 k2 l0 l1 y172 (x6_2.take ((ji52) : Int).toNat) (x7_2.take ((ji52) : Int).toNat) (wrap64 (x8_1 + 1))) else (none)) else (none)) else (if (ji52) < (x6_2.length : Int) then (path_paths.l0 k2 l0 l1 y172 (x6_2.set ((ji52) : Int).toNat (wrap64 ((rd x6_2 (ji52)) + 1))) (x7_2.set ((ji52) : Int).toNat (wrap64 ((rd x7_2 (ji52)) - 1))) (wrap64 (x8_1 + 1))) else (none))) else (none)) else (none)) = some r := by first | (rw [hji52] at H; exact H) | (simp only [hji52] at H ⊢; exact H)
            have hji52w : (IntKind.i64.wrap ((x7_2.length : Int) - 1)) = ji52 := (i64_w _).trans hji52
            by_cases c53 : 0 ≤ (ji52)
            ·rw [if_pos c53] at H
             have c53b0 : decide (0 ≤ (ji52)) = true := decide_eq_true c53
             clear c53
             by_cases c54 : (ji52) < (x7_2.length : Int)
             ·rw [if_pos c54] at H
              have c54b0 : decide ((ji52) < (x7_2.length : Int)) = true := decide_eq_true c54
              clear c54
              by_cases c55 : (rd x7_2 (ji52)) = 0
              ·rw [if_pos c55] at H
               have c55b0 : ((rd x7_2 (ji52)) == 0) = true := beq_iff_eq.mpr c55
               have c55b1 : ((rd x7_2 (ji52)) != 0) = false := bne_eq_false_iff_eq.mpr c55
               clear c55
               by_cases c56 : (ji52) ≤ (x6_2.length : Int)
               ·rw [if_pos c56] at H
                have c56b0 := eq_true c56
                have c56b1 : decide ((ji52) ≤ (x6_2.length : Int)) = true := decide_eq_true c56
                clear c56
                obtain ⟨y190, hy190⟩ : ∃ y_ : List Int, y_ = (x6_2.take ((ji52) : Int).toNat) := ⟨_, rfl⟩
                replace H : (if (ji52) ≤ (x7_2.length : Int) then (path_paths.l1 k2 l0 l1 y172 y190 (x7_2.take ((ji52) : Int).toNat) (wrap64 (x8_1 + 1))) else (none)) = some r := by first | (rw [hy190]; with_reducible exact H) | (have H2_ := (Option.bind_some _ _).symm.trans H; rw [hy190]; with_reducible exact H2_) | (have H2_ := (Option.bind_some _ _).symm.trans H; with_reducible exact H2_) | with_reducible exact H | (rw [hy190]; exact H) | exact H
                have Ny190 := Aside0.mk hy190
                clear hy190
                by_cases c57 : (ji52) ≤ (x7_2.length : Int)
                ·rw [if_pos c57] at H
                 have c57b0 := eq_true c57
                 have c57b1 : decide ((ji52) ≤ (x7_2.length : Int)) = true := decide_eq_true c57
                 clear c57
                 obtain ⟨y193, hy193⟩ : ∃ y_ : List Int, y_ = (x7_2.take ((ji52) : Int).toNat) := ⟨_, rfl⟩
                 replace H : (path_paths.l1 k2 l0 l1 y172 y190 y193 (wrap64 (x8_1 + 1))) = some r := by first | (rw [hy193]; with_reducible exact H) | (have H2_ := (Option.bind_some _ _).symm.trans H; rw [hy193]; with_reducible exact H2_) | (have H2_ := (Option.bind_some _ _).symm.trans H; with_reducible exact H2_) | with_reducible exact H | (rw [hy193]; exact H) | exact H
                 have Ny193 := Aside0.mk hy193
                 clear hy193
                 have H' := Aside0.mk H
                 clear H
                 obtain ⟨Ao58, co58, eo58⟩ := Kd.R_slice HO_7.out
                 subst eo58
                 have p189 : 0 ≤ ((ji52) : Int) := of_decide_eq_true aK
                 have q189 : (ji52) < (x7_2.length : Int) := of_decide_eq_true aK
                 obtain ⟨ad189, e189, hx189_0⟩ := Kd.at_int (Kd.R_reads' HO_7.out).2.2 (ji52) p189 q189
                 cases e189
                 replace p189 := eq_true p189
                 replace q189 := eq_true q189
                 try go_wp2
                 have n0_ := Aside0.mk (Kd.N_drew HO_5.out)
                 have n1_ := Aside0.mk (Kd.R_drew HO_6.out)
                 have n2_ := Aside0.mk (Kd.R_drew HO_7.out)
                 have n3_ := Aside0.mk (below_drew1 HB.out)
                 clear HO_5 HO_6 HO_7 HB
                 have HO_5 := n0_
                 have HO_6 := n1_
                 have HO_7 := n2_
                 have HB := n3_
                 clear n0_ n1_ n2_ n3_
                 obtain ⟨Ao60, co60, eo60⟩ := Kd.R_slice HO_6.out
                 (first | subst eo60 | (injection eo60 with f1_ f2_ f3_; have f4_ := f1_.symm; have f5_ := f3_.symm; clear f1_ f2_ f3_; subst f4_; subst f5_))
                 have q61 : ((ji52) : Int) ≤ ((x6_2.length : Int) : Int) := of_decide_eq_true aK
                 obtain ⟨i061, hi061, _, hsz61, _⟩ := info_parts info3
                 have hcut61 := cut_to (P := Tryd.prog) 23 3 .i64 Tryd.underlying23 hi061 Ao60 x6_2.length co60 (ji52) (of_decide_eq_true aK) q61 (Kd.R_reads' HO_6.out).2.1
                 have hr61 := Kd.R_take (m := ((ji52) : Int).toNat) HO_6.out (by omega)
                 have hy61 : y190.length = ((ji52) : Int).toNat := (by rw [Ny190.out, List.length_take]; omega)
                 rw [← Ny190.out] at hr61
                 rw [← hy61] at hr61 hcut61
                 clear hy61 hi061 hsz61 HO_6
                 have HO192 := Aside0.mk hr61
                 clear hr61
                 replace q61 := eq_true q61
                 have q62 : ((ji52) : Int) ≤ ((x7_2.length : Int) : Int) := of_decide_eq_true aK
                 obtain ⟨i062, hi062, _, hsz62, _⟩ := info_parts info3
                 have hcut62 := cut_to (P := Tryd.prog) 23 3 .i64 Tryd.underlying23 hi062 (some ad189) x7_2.length co58 (ji52) (of_decide_eq_true aK) q62 (Kd.R_reads' HO_7.out).2.1
                 have hr62 := Kd.R_take (m := ((ji52) : Int).toNat) HO_7.out (by omega)
                 have hy62 : y193.length = ((ji52) : Int).toNat := (by rw [Ny193.out, List.length_take]; omega)
                 rw [← Ny193.out] at hr62
                 rw [← hy62] at hr62 hcut62
                 clear hy62 hi062 hsz62 HO_7
                 have HO195 := Aside0.mk hr62
                 clear hr62
                 replace q62 := eq_true q62
                 refine start_ (n := 8) (S := fun w' => True) (ds := []) #[false, false, false, false, false, false, false, false] (by kernel_rfl) rfl rfl trivial (fun hHeld => ?_); refine with_tabW path_paths.tab15 path_paths.bits15 (fun HT_ HW_ => ?_)
                 generalize wr.drew = w59 at HO_5 HO_6 HO_7 HB HO192 HO195 hHeld ⊢
                 refine pure_ (i := 0) (N := some 59) (v := ?_) (a' := ?_) #[true, false, false, false, false, false, false, false] rfl rfl (any_of HT_.out (by kernel_rfl)) (fun _ _ _ h => h) (Or.inl ⟨by rfl, ?_⟩) ?_ ?_
                 rotate_left
                 ·intro w'
                  go_simp
                  with_reducible rfl
                 rotate_left
                 ·simp only [Act.put, List.setIfInBounds_toArray, List.set_cons_zero, List.set_cons_succ, i64_w, i32_w]
                  rfl
                 refine pure_ (i := 1) (N := some 60) (v := ?_) (a' := ?_) #[true, true, false, false, false, false, false, false] rfl rfl (any_of HT_.out (by kernel_rfl)) (fun _ _ _ h => h) (Or.inl ⟨by rfl, ?_⟩) ?_ ?_
                 rotate_left
                 ·intro w'
                  go_simp
                  with_reducible rfl
                 rotate_left
                 ·simp only [Act.put, List.setIfInBounds_toArray, List.set_cons_zero, List.set_cons_succ, i64_w, i32_w]
                  rfl
                 refine pure_ (i := 2) (N := some 61) (v := ?_) (a' := ?_) #[true, true, true, false, false, false, false, false] rfl rfl (any_of HT_.out (by kernel_rfl)) (fun _ _ _ h => h) (Or.inl ⟨by rfl, ?_⟩) ?_ ?_
                 rotate_left
                 ·intro w'
                  go_simp
                  with_reducible rfl
                 rotate_left
                 ·simp only [Act.put, List.setIfInBounds_toArray, List.set_cons_zero, List.set_cons_succ, i64_w, i32_w]
                  rfl
                 refine pure_ (i := 3) (N := some 62) (v := ?_) (a' := ?_) #[true, true, true, true, false, false, false, false] rfl rfl (any_of HT_.out (by kernel_rfl)) (fun _ _ _ h => h) (Or.inl ⟨by rfl, ?_⟩) ?_ ?_
                 rotate_left
                 ·intro w'
                  go_simp
                  with_reducible rfl
                 rotate_left
                 ·simp only [Act.put, List.setIfInBounds_toArray, List.set_cons_zero, List.set_cons_succ, i64_w, i32_w]
                  rfl
                 refine pure_ (i := 4) (N := some 63) (v := ?_) (a' := ?_) #[true, true, true, true, true, false, false, false] rfl rfl (any_of HT_.out (by kernel_rfl)) (fun _ _ _ h => h) (Or.inl ⟨by rfl, ?_⟩) ?_ ?_
                 rotate_left
                 ·intro w'
                  go_simp
                  with_reducible rfl
                 rotate_left
                 ·simp only [Act.put, List.setIfInBounds_toArray, List.set_cons_zero, List.set_cons_succ, i64_w, i32_w]
                  rfl
                 refine pure_ (i := 5) (N := some 64) (v := ?_) (a' := ?_) #[true, true, true, true, true, true, false, false] rfl rfl (any_of HT_.out (by kernel_rfl)) (fun _ _ _ h => h) (Or.inl ⟨by rfl, ?_⟩) ?_ ?_
                 rotate_left
                 ·intro w'
                  go_simp
                  with_reducible rfl
                 rotate_left
                 ·simp only [Act.put, List.setIfInBounds_toArray, List.set_cons_zero, List.set_cons_succ, i64_w, i32_w]
                  rfl
                 refine pure_ (i := 6) (N := some 6) (v := ?_) (a' := ?_) #[true, true, true, true, true, true, true, false] rfl rfl (any_of HT_.out (by kernel_rfl)) (fun _ _ _ h => h) (Or.inl ⟨by rfl, ?_⟩) ?_ ?_
                 rotate_left
                 ·intro w'
                  go_simp
                  with_reducible rfl
                 rotate_left
                 ·simp only [Act.put, List.setIfInBounds_toArray, List.set_cons_zero, List.set_cons_succ, i64_w, i32_w]
                  rfl
                 refine pure_ (i := 7) (N := some 7) (v := ?_) (a' := ?_) #[true, true, true, true, true, true, true, true] rfl rfl (any_of HT_.out (by kernel_rfl)) (fun _ _ _ h => h) (Or.inl ⟨by rfl, ?_⟩) ?_ ?_
                 rotate_left
                 ·intro w'
                  go_simp
                  with_reducible rfl
                 rotate_left
                 ·simp only [Act.put, List.setIfInBounds_toArray, List.set_cons_zero, List.set_cons_succ, i64_w, i32_w]
                  rfl
                 refine done_ (done_of HT_.out (by kernel_rfl)) ?_
                 try go_wp2
                 go_step3
                 refine And.intro rfl ?_
                 go_step
                 go_roundg k2
                 case measure => have := HK1.out; have := HK2.out; omega
                 case rel => exact ⟨(y190), (y193), H', ⟨by have := HK1.out; have := HK2.out; omega⟩, ⟨by (with_reducible repeat (first | apply Kd.N_alloc | apply Kd.N_drewN | apply Kd.N_drew)); first | exact HO_5.out | exact Kd.N_mono HO_5.out (fun k_ hk => by simp only [own_any] at hk ⊢; exact hk) | exact Kd.R_mono HO_5.out (fun k_ hk => by simp only [own_any] at hk ⊢; exact hk)⟩, ⟨by (with_reducible repeat (first | apply Kd.R_alloc | apply Kd.R_drewN | apply Kd.R_drew)); first | exact HO192.out | exact Kd.N_mono HO192.out (fun k_ hk => by simp only [own_any] at hk ⊢; exact hk) | exact Kd.R_mono HO192.out (fun k_ hk => by simp only [own_any] at hk ⊢; exact hk)⟩, ⟨by (with_reducible repeat (first | apply Kd.R_alloc | apply Kd.R_drewN | apply Kd.R_drew)); first | exact HO195.out | exact Kd.N_mono HO195.out (fun k_ hk => by simp only [own_any] at hk ⊢; exact hk) | exact Kd.R_mono HO195.out (fun k_ hk => by simp only [own_any] at hk ⊢; exact hk)⟩, ⟨bB⟩⟩
                ·rw [if_neg c57] at H
                 exact absurd H (by simp)
               ·rw [if_neg c56] at H
                exact absurd H (by simp)
              ·rw [if_neg c55] at H
               have c55b0 : ((rd x7_2 (ji52)) == 0) = false := beq_eq_false_iff_ne.mpr c55
               have c55b1 : ((rd x7_2 (ji52)) != 0) = true := bne_iff_ne.mpr c55
               obtain ⟨y197, hy197⟩ : ∃ y_ : List Int, y_ = (x7_2.set ((ji52) : Int).toNat (wrap64 ((rd x7_2 (ji52)) - 1))) := ⟨_, rfl⟩
               replace H : (if (ji52) < (x6_2.length : Int) then (path_paths.l0 k2 l0 l1 y172 (x6_2.set ((ji52) : Int).toNat (wrap64 ((rd x6_2 (ji52)) + 1))) y197 (wrap64 (x8_1 + 1))) else (none)) = some r := by first | (rw [hy197]; with_reducible exact H) | (have H2_ := (Option.bind_some _ _).symm.trans H; rw [hy197]; with_reducible exact H2_) | (have H2_ := (Option.bind_some _ _).symm.trans H; with_reducible exact H2_) | with_reducible exact H | (rw [hy197]; exact H) | exact H
               have Ny197 := Aside0.mk hy197
               clear hy197
               by_cases c64 : (ji52) < (x6_2.length : Int)
               ·rw [if_pos c64] at H
                have c64b0 : decide ((ji52) < (x6_2.length : Int)) = true := decide_eq_true c64
                clear c64
                obtain ⟨y199, hy199⟩ : ∃ y_ : List Int, y_ = (x6_2.set ((ji52) : Int).toNat (wrap64 ((rd x6_2 (ji52)) + 1))) := ⟨_, rfl⟩
                replace H : (path_paths.l0 k2 l0 l1 y172 y199 y197 (wrap64 (x8_1 + 1))) = some r := by first | (rw [hy199]; with_reducible exact H) | (have H2_ := (Option.bind_some _ _).symm.trans H; rw [hy199]; with_reducible exact H2_) | (have H2_ := (Option.bind_some _ _).symm.trans H; with_reducible exact H2_) | with_reducible exact H | (rw [hy199]; exact H) | exact H
                have Ny199 := Aside0.mk hy199
                clear hy199
                have H' := Aside0.mk H
                clear H
                obtain ⟨Ao66, co66, eo66⟩ := Kd.R_slice HO_7.out
                subst eo66
                have p189 : 0 ≤ ((ji52) : Int) := of_decide_eq_true aK
                have q189 : (ji52) < (x7_2.length : Int) := of_decide_eq_true aK
                obtain ⟨ad189, e189, hx189_0⟩ := Kd.at_int (Kd.R_reads' HO_7.out).2.2 (ji52) p189 q189
                cases e189
                replace p189 := eq_true p189
                replace q189 := eq_true q189
                have p196 : 0 ≤ ((ji52) : Int) := of_decide_eq_true aK
                have q196 : (ji52) < (x7_2.length : Int) := of_decide_eq_true aK
                obtain ⟨ad196, e196, hx196_0⟩ := Kd.at_int (Kd.R_reads' HO_7.out).2.2 (ji52) p196 q196
                obtain rfl : ad189 = ad196 := (by injection e196)
                replace p196 := eq_true p196
                replace q196 := eq_true q196
                have p63 : 0 ≤ ((ji52) : Int) := of_decide_eq_true aK
                have q63 : ((ji52) : Int) < ((x7_2.length : Int) : Int) := of_decide_eq_true aK
                obtain ⟨go63, co63, eo63, gb63, gl63, cl63, HG63⟩ := Kd.R_form HO_7.out (by omega)
                (first | cases eo63 | (injection eo63 with ea_ en_ ec_; (first | subst ea_ | (injection ea_ with ea_; subst ea_)); subst ec_; clear en_))
                have GB63 := Aside0.mk gb63
                have GG63 := Aside0.mk HG63
                clear gb63 gl63 HG63
                (first | simp only [add_plain] at hx189_0 | skip)
                (first | simp only [add_plain] at hx196_0 | skip)
                obtain ⟨hx63_0, hf63_0⟩ := Kd.R_celln 0 HO_7.out ((ji52) : Int) p63 q63
                replace p63 := eq_true p63
                replace q63 := eq_true q63
                have HP67 := Kd.R_putg HO_7.out ((ji52) : Int) (wrap64 ((rd x7_2 (ji52)) - 1))
                go_wp2_with (first | ((with_reducible refine gate_store (t := 3) (p := 70) rfl ?_); refine store_event (t := 3) (p := 70) (v := ?vo_w68) (w1 := (wr.setCell ⟨go63, ((ji52) : Int).toNat, none⟩ (.int .i64 (wrap64 ((rd x7_2 (ji52)) - 1))))) ?hg ?ho ?hn ?hr ?_; (case ho => rfl); (case hg => rfl); (case hn => rfl); (case hr => first | (go_simp; done) | (go_simp; rfl)); intro w68 hw; have hg : wr.grownBy w68 (some go63) := (by rw [hw]; exact HP67.2); have hp_ : Kd.R (Kd.int .i64) 3 w68 w.heap.size (fun k_ => (w.heap.size ≤ k_) ∧ some k_ ≠ (u6 : Value).ownBlock) (.slice (some ⟨go63, 0, none⟩) x7_2.length co66) y197 := (by rw [hw, Ny197.out]; exact HP67.1); clear HP67; have n0_ := Aside0.mk (Kd.N_afterv (v := (.slice (some ⟨go63, 0, none⟩) x7_2.length co66)) (v1 := (.slice (some ⟨go63, 0, none⟩) x7_2.length co66)) (ok := (fun k_ => (w.heap.size ≤ k_) ∧ some k_ ≠ (u6 : Value).ownBlock)) (by (with_reducible repeat (first | apply Kd.N_alloc | apply Kd.N_drewN | apply Kd.N_drew)); exact Kd.N_mono HO_5.out (fun _ hk => ⟨⟨hk.1, hk.2.1⟩, hk.2.2⟩)) hg (.inl rfl)); have n1_ := Aside0.mk (Kd.R_after (v := (.slice (some ⟨go63, 0, none⟩) x7_2.length co66)) (v1 := (.slice (some ⟨go63, 0, none⟩) x7_2.length co66)) (ok := (fun k_ => (w.heap.size ≤ k_))) (rK HO_6) hg (.inl rfl)); have n2_ := Aside0.mk (hp_); have n3_ := Aside0.mk ((by rw [hw]; exact below_set (HB.out) GB63.out : Below w.heap.size w w68)); clear HO_5; clear HO_6; clear HO_7; clear HB; have HO_5 := n0_; have HO_6 := n1_; have HO_7 := n2_; have HB := n3_; clear n0_ n1_ n2_ n3_; clear hg hw hp_; obtain ⟨Ao69, co69, eo69⟩ := Kd.R_slice HO_6.out; subst eo69; have p198 : 0 ≤ ((ji52) : Int) := of_decide_eq_true aK; have q198 : (ji52) < (x6_2.length : Int) := of_decide_eq_true aK; obtain ⟨ad198, e198, hx198_0⟩ := Kd.at_int (Kd.R_reads' HO_6.out).2.2 (ji52) p198 q198; cases e198; replace p198 := eq_true p198; replace q198 := eq_true q198; have p65 : 0 ≤ ((ji52) : Int) := of_decide_eq_true aK; have q65 : ((ji52) : Int) < ((x6_2.length : Int) : Int) := of_decide_eq_true aK; obtain ⟨go65, co65, eo65, gb65, gl65, cl65, HG65⟩ := Kd.R_form HO_6.out (by omega); (first | cases eo65 | (injection eo65 with ea_ en_ ec_; (first | subst ea_ | (injection ea_ with ea_; subst ea_)); subst ec_; clear en_)); have GB65 := Aside0.mk gb65; have GG65 := Aside0.mk HG65; clear gb65 gl65 HG65; (first | simp only [add_plain] at hx198_0 | skip); obtain ⟨hx65_0, hf65_0⟩ := Kd.R_celln 0 HO_6.out ((ji52) : Int) p65 q65; replace p65 := eq_true p65; replace q65 := eq_true q65; obtain ⟨hy70_, hz70_⟩ := Kd.R_celln 0 HO_6.out ((ji52) : Int) (of_decide_eq_true aK) (of_decide_eq_true aK); have HP70 := Kd.R_putg HO_6.out ((ji52) : Int) (wrap64 ((rd x6_2 (ji52)) + 1))) | ((with_reducible refine gate_store (t := 3) (p := 76) rfl ?_); refine store_event (t := 3) (p := 76) (v := ?vo_w71) (w1 := (w68.setCell ⟨go65, ((ji52) : Int).toNat, none⟩ (.int .i64 (wrap64 ((rd x6_2 (ji52)) + 1))))) ?hg ?ho ?hn ?hr ?_; (case ho => rfl); (case hg => rfl); (case hn => rfl); (case hr => first | (go_simp; done) | (go_simp; rfl)); intro w71 hw; have hg : w68.grownBy w71 (some go65) := (by rw [hw]; exact HP70.2); have hp_ : Kd.R (Kd.int .i64) 3 w71 w.heap.size (fun k_ => (w.heap.size ≤ k_) ∧ some k_ ≠ (.slice (some ⟨go63, 0, none⟩) x7_2.length co66 : Value).ownBlock) (.slice (some ⟨go65, 0, none⟩) x6_2.length co69) y199 := (by rw [hw, Ny199.out]; exact HP70.1); clear HP70; have n0_ := Aside0.mk (Kd.N_afterv (v := (.slice (some ⟨go65, 0, none⟩) x6_2.length co69)) (v1 := (.slice (some ⟨go65, 0, none⟩) x6_2.length co69)) (ok := (fun k_ => (w.heap.size ≤ k_) ∧ some k_ ≠ (.slice (some ⟨go63, 0, none⟩) x7_2.length co66 : Value).ownBlock)) (by (with_reducible repeat (first | apply Kd.N_alloc | apply Kd.N_drewN | apply Kd.N_drew)); exact Kd.N_mono HO_5.out (fun _ hk => ⟨⟨hk.1.1, hk.2⟩, hk.1.2⟩)) hg (.inl rfl)); have n1_ := Aside0.mk (hp_); have n2_ := Aside0.mk (Kd.R_after (v := (.slice (some ⟨go65, 0, none⟩) x6_2.length co69)) (v1 := (.slice (some ⟨go65, 0, none⟩) x6_2.length co69)) (ok := (fun k_ => (w.heap.size ≤ k_))) (rK HO_7) hg (.inl rfl)); have n3_ := Aside0.mk ((by rw [hw]; exact below_set (HB.out) GB65.out : Below w.heap.size w w71)); clear HO_5; clear HO_6; clear HO_7; clear HB; have HO_5 := n0_; have HO_6 := n1_; have HO_7 := n2_; have HB := n3_; clear n0_ n1_ n2_ n3_; clear hg hw hp_))
                go_step3
                refine And.intro rfl ?_
                go_step
                go_roundg k2
                case measure => have := HK1.out; have := HK2.out; omega
                case rel => exact ⟨(y172), (y199), (y197), ((wrap64 (x8_1 + 1))), sK, H', ⟨by have := HK1.out; have := HK2.out; omega⟩, ⟨by (with_reducible repeat (first | apply Kd.N_alloc | apply Kd.N_drewN | apply Kd.N_drew)); exact Kd.N_mono HO_5.out (fun _ hk => ⟨hk.1.1, ⟨hk.2, hk.1.2⟩⟩)⟩, ⟨by (with_reducible repeat (first | apply Kd.R_alloc | apply Kd.R_drewN | apply Kd.R_drew)); exact HO_6.out⟩, ⟨by (with_reducible repeat (first | apply Kd.R_alloc | apply Kd.R_drewN | apply Kd.R_drew)); exact HO_7.out⟩, ⟨bB⟩⟩
               ·rw [if_neg c64] at H
                exact absurd H (by simp)
             ·rw [if_neg c54] at H
              exact absurd H (by simp)
            ·rw [if_neg c53] at H
             exact absurd H (by simp)
       ·rw [if_neg c9] at H
        exact absurd H (by simp)
      ·rw [if_neg c8] at H
       exact absurd H (by simp)
     ·rw [if_neg c6] at H
      exact absurd H (by simp)
    ·rw [if_neg c5] at H
     exact absurd H (by simp)

end Go.Proofs.YteffiodbflmfkaaDoor.PP
