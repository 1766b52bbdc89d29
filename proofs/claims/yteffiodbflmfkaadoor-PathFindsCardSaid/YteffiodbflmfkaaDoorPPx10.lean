-- written by a program of this session's (wip/tools/pp.py), after the kit's print
import Derived.Test.YteffiodbflmfkaaDoorPPx0
namespace Go.Proofs.YteffiodbflmfkaaDoor.PP
open Go.RowKit Go.Proofs.YteffiodbflmfkaaDoorW.PrintWords Go.Proofs.YteffiodbflmfkaaDoorW.PrintLast Go.Proofs.YteffiodbflmfkaaDoorW.PrintMore
attribute [local go_sem] jump_ret jumpE_ret max2_int min2_int max_two min_two max_three min_three max_four min_four   -- for this text's walks alone
set_option linter.unusedVariables false
set_option linter.unusedSimpArgs false

/-! ### quaereref1_small: function 55 -/
def quaereref1_small.f (a0 : Int) : Option (Bool) := if a0 ≥ 97 then (some (decide (a0 ≤ 122))) else (some false)
set_option maxHeartbeats 8000000 in
set_option maxRecDepth 100000 in
theorem quaereref1_small.calls (a0 : Int) (r : Bool) (w : World) (h : quaereref1_small.f a0 = some r) :
  Calls Tryd.prog 55 #[.int .u8 a0] w fun e w' => e = .returned (.bool r) ∧ Drawn0 w w' := by
 have H : (if a0 ≥ 97 then (some (decide (a0 ≤ 122))) else (some false)) = some r := h
 clear h
 by_cases c2 : a0 ≥ 97
 ·rw [if_pos c2] at H
  have c2b0 : decide (97 ≤ a0) = true := decide_eq_true c2
  clear c2
  obtain rfl := Option.some.inj H
  go_enter Tryd.func55, Tryd.ntmps55
  go_wp2
  go_ret
  exact ⟨sK, by repeat (first | exact Drawn0.refl _ | apply Drawn0.step)⟩
 ·rw [if_neg c2] at H
  have c2b0 : decide (97 ≤ a0) = false := decide_eq_false c2
  clear c2
  obtain rfl := Option.some.inj H
  go_enter Tryd.func55, Tryd.ntmps55
  go_wp2
  go_ret
  exact ⟨sK, by repeat (first | exact Drawn0.refl _ | apply Drawn0.step)⟩

/-! ### quaereref1_SymMay: function 40 -/
mutual
def quaereref1_SymMay.j0 : Nat → Bool → ByteArray → Int → Int → Int → Option (Bool)
 | 0, _, _, _, _, _ => none
 | k + 1, x20, x248000, x248001, x248002, x248003 => if x20 = true then (some false) else (quaereref1_SymMay.l0 k 0 x248000 x248001 x248002 x248003)
def quaereref1_SymMay.l0 : Nat → Int → ByteArray → Int → Int → Int → Option (Bool)
 | 0, _, _, _, _, _ => none
 | k + 1, x3, x248000, x248001, x248002, x248003 => if x3 < (x248000.size : Int) then (if 0 ≤ x3 then ((quaereref1_small.f (bt x248000 x3)).bind fun t249 => (if t249 = true then (quaereref1_SymMay.l0 k (wrap64 (x3 + 1)) x248000 x248001 x248002 x248003) else (if (bt x248000 x3) < 48 then (some false) else (if (bt x248000 x3) > 57 then (some false) else (quaereref1_SymMay.l0 k (wrap64 (x3 + 1)) x248000 x248001 x248002 x248003))))) else (none)) else (if x248001 ≥ 0 then (if x248001 ≤ 2 then (if x248002 ≥ 0 then (if x248002 ≤ 3 then (if x248003 ≥ 1 then (some (decide (x248003 ≤ 20))) else (some false)) else (some false)) else (some false)) else (some false)) else (some false))
end
def quaereref1_SymMay.f (k : Nat) (a0_0 : ByteArray) (a0_1 : Int) (a0_2 : Int) (a0_3 : Int) : Option (Bool) := if (a0_0.size : Int) < 1 then (quaereref1_SymMay.j0 k true a0_0 a0_1 a0_2 a0_3) else (if (a0_0.size : Int) > 8 then (quaereref1_SymMay.j0 k true a0_0 a0_1 a0_2 a0_3) else (if 0 < (a0_0.size : Int) then ((quaereref1_small.f (bt a0_0 0)).bind fun t248 => (quaereref1_SymMay.j0 k (!t248) a0_0 a0_1 a0_2 a0_3)) else (none)))
theorem quaereref1_SymMay.mono_l : ∀ k, (∀ y0 y1 y2 y3 y4, LeO (quaereref1_SymMay.j0 k y0 y1 y2 y3 y4) (quaereref1_SymMay.j0 (k + 1) y0 y1 y2 y3 y4)) ∧ (∀ y0 y1 y2 y3 y4, LeO (quaereref1_SymMay.l0 k y0 y1 y2 y3 y4) (quaereref1_SymMay.l0 (k + 1) y0 y1 y2 y3 y4))
 | 0 => ⟨fun _ _ _ _ _ r h => by simp [quaereref1_SymMay.j0] at h, fun _ _ _ _ _ r h => by simp [quaereref1_SymMay.l0] at h⟩
 | k + 1 => by
  obtain ⟨ih0, ih1⟩ := quaereref1_SymMay.mono_l k
  refine ⟨?_, ?_⟩
  ·intro y0 y1 y2 y3 y4
   unfold quaereref1_SymMay.j0
   repeat' first
   | (with_reducible exact ih0 _ _ _ _ _)
   | (with_reducible exact ih1 _ _ _ _ _)
   | (with_reducible exact LeO.refl _)
   | (with_reducible exact LeO.none _)
   | (with_reducible refine LeO.ite ?_ ?_)
   | (with_reducible refine LeO.bind ?_ (fun _ => ?_))
   | exact ih0 _ _ _ _ _
   | exact ih1 _ _ _ _ _
   | exact LeO.none _
   | refine LeO.ite ?_ ?_
   | refine LeO.bind ?_ (fun _ => ?_)
  ·intro y0 y1 y2 y3 y4
   unfold quaereref1_SymMay.l0
   repeat' first
   | (with_reducible exact ih0 _ _ _ _ _)
   | (with_reducible exact ih1 _ _ _ _ _)
   | (with_reducible exact LeO.refl _)
   | (with_reducible exact LeO.none _)
   | (with_reducible refine LeO.ite ?_ ?_)
   | (with_reducible refine LeO.bind ?_ (fun _ => ?_))
   | exact ih0 _ _ _ _ _
   | exact ih1 _ _ _ _ _
   | exact LeO.none _
   | refine LeO.ite ?_ ?_
   | refine LeO.bind ?_ (fun _ => ?_)
theorem quaereref1_SymMay.mono : ∀ a0 a1 a2 a3 k, LeO (quaereref1_SymMay.f k a0 a1 a2 a3) (quaereref1_SymMay.f (k + 1) a0 a1 a2 a3) := by
 intro a0 a1 a2 a3 k
 obtain ⟨ih0, ih1⟩ := quaereref1_SymMay.mono_l k
 unfold quaereref1_SymMay.f
 repeat' first
   | (with_reducible exact ih0 _ _ _ _ _)
   | (with_reducible exact ih1 _ _ _ _ _)
   | (with_reducible exact LeO.refl _)
   | (with_reducible exact LeO.none _)
   | (with_reducible refine LeO.ite ?_ ?_)
   | (with_reducible refine LeO.bind ?_ (fun _ => ?_))
   | exact ih0 _ _ _ _ _
   | exact ih1 _ _ _ _ _
   | exact LeO.none _
   | refine LeO.ite ?_ ?_
   | refine LeO.bind ?_ (fun _ => ?_)
set_option maxHeartbeats 8000000 in
set_option maxRecDepth 100000 in
theorem quaereref1_SymMay.calls (k : Nat) (a0_0 : ByteArray) (a0_1 : Int) (a0_2 : Int) (a0_3 : Int) (r : Bool) (w : World) (h : quaereref1_SymMay.f k a0_0 a0_1 a0_2 a0_3 = some r) :
  Calls Tryd.prog 40 #[.agg #[.string a0_0, .int .i64 a0_1, .int .i64 a0_2, .int .i64 a0_3]] w fun e w' => e = .returned (.bool r) ∧ Below w.heap.size w w' := by
 have hu59 := Tryd.underlying59
 have HB := Aside0.mk (Below.refl w.heap.size w)
 have H : (if (a0_0.size : Int) < 1 then (quaereref1_SymMay.j0 k true a0_0 a0_1 a0_2 a0_3) else (if (a0_0.size : Int) > 8 then (quaereref1_SymMay.j0 k true a0_0 a0_1 a0_2 a0_3) else (if 0 < (a0_0.size : Int) then ((quaereref1_small.f (bt a0_0 0)).bind fun t248 => (quaereref1_SymMay.j0 k (!t248) a0_0 a0_1 a0_2 a0_3)) else (none)))) = some r := h
 clear h
 have HC2 := Aside0.mk H
 clear H
 go_enter Tryd.func40, Tryd.ntmps40
 go_upto_region 1 with (first | ((with_reducible refine gate_dst (N := 1) rfl ?_); (try (refine gate_guard (by rfl) ?_; dsimp only)); refine box_event ?hg (N := 1) ?hd (cs := #[.string a0_0, .int .i64 a0_1, .int .i64 a0_2, .int .i64 a0_3]) (t := 59) ?hr ?_; (case hd => rfl); (case hg => rfl); (case hr => first | (go_simp; done) | (go_simp; rfl)); intro gb247 hg w3 hbox hb; have n0_ := Aside0.mk (below_step bB hb); have n1_ := Aside0.mk (hbox); have n2_ := Aside0.mk ((by rw [hg]; exact (below_size bB) : w.heap.size ≤ gb247)); have n3_ := Aside0.mk ((by rw [hg]; exact (below_size bB) : w.heap.size ≤ gb247)); clear HB; have HB := n0_; have BK247 := n1_; have GW247 := n2_; have GE247 := n3_; clear n0_ n1_ n2_ n3_; clear hb hbox hg))
 (try simp only [Act.put, List.setIfInBounds_toArray, List.set_cons_zero, List.set_cons_succ])
 go_cut [20] (fun v20 wc => ∃ (kq : Nat) (x20_1 : Bool), v20 = .bool x20_1 ∧ Aside0 (quaereref1_SymMay.j0 kq x20_1 a0_0 a0_1 a0_2 a0_3 = some r) ∧ Aside0 (kq ≤ k) ∧ Aside0 (wc.heap[gb247]? = some (.cells #[.string a0_0, .int .i64 a0_1, .int .i64 a0_2, .int .i64 a0_3] 59 (0, 0))) ∧ Aside0 (Below w.heap.size w wc))
 case first =>
  have H := HC2.out
  clear HC2
  by_cases c4 : (a0_0.size : Int) < 1
  ·rw [if_pos c4] at H
   have c4b0 : decide ((a0_0.size : Int) < 1) = true := decide_eq_true c4
   have c4b1 : decide (a0_0.size < 1) = true := decide_eq_true (by omega)
   clear c4
   (first | rw [c4b0] | (simp only [i64_w, i32_w]; rw [c4b0]) | skip)
   have H' := Aside0.mk H
   clear H
   have hcz5_0 : w3.cell? ⟨gb247, 0, none⟩ = some (.string a0_0) := (blk_cell BK247.out 0).trans rfl
   have hcz5_1 : w3.cell? ⟨gb247, 1, none⟩ = some (.int .i64 a0_1) := (blk_cell BK247.out 1).trans rfl
   have hcz5_2 : w3.cell? ⟨gb247, 2, none⟩ = some (.int .i64 a0_2) := (blk_cell BK247.out 2).trans rfl
   have hcz5_3 : w3.cell? ⟨gb247, 3, none⟩ = some (.int .i64 a0_3) := (blk_cell BK247.out 3).trans rfl
   have hfz5_0 := blk_frozen BK247.out 0
   have hfz5_1 := blk_frozen BK247.out 1
   have hfz5_2 := blk_frozen BK247.out 2
   have hfz5_3 := blk_frozen BK247.out 3
   go_wp2
   go_meet
   case rel => exact ⟨_, (true), sK, H', ⟨by first | omega | exact Nat.le_refl _⟩, ⟨by (with_reducible repeat (first | refine blk_drewN ?_ _ | refine blk_drew ?_ | refine blk_alloc ?_ _)); exact BK247.out⟩, ⟨bS⟩⟩
  ·rw [if_neg c4] at H
   have c4b0 : decide ((a0_0.size : Int) < 1) = false := decide_eq_false c4
   have c4b1 : decide (a0_0.size < 1) = false := decide_eq_false (by omega)
   clear c4
   (first | rw [c4b0] | (simp only [i64_w, i32_w]; rw [c4b0]) | skip)
   by_cases c6 : (a0_0.size : Int) > 8
   ·rw [if_pos c6] at H
    have c6b0 : decide (8 < (a0_0.size : Int)) = true := decide_eq_true c6
    have c6b1 : decide (8 < a0_0.size) = true := decide_eq_true (by omega)
    clear c6
    have H' := Aside0.mk H
    clear H
    have hcz7_0 : w3.cell? ⟨gb247, 0, none⟩ = some (.string a0_0) := (blk_cell BK247.out 0).trans rfl
    have hcz7_1 : w3.cell? ⟨gb247, 1, none⟩ = some (.int .i64 a0_1) := (blk_cell BK247.out 1).trans rfl
    have hcz7_2 : w3.cell? ⟨gb247, 2, none⟩ = some (.int .i64 a0_2) := (blk_cell BK247.out 2).trans rfl
    have hcz7_3 : w3.cell? ⟨gb247, 3, none⟩ = some (.int .i64 a0_3) := (blk_cell BK247.out 3).trans rfl
    have hfz7_0 := blk_frozen BK247.out 0
    have hfz7_1 := blk_frozen BK247.out 1
    have hfz7_2 := blk_frozen BK247.out 2
    have hfz7_3 := blk_frozen BK247.out 3
    go_wp2
    go_meet
    case rel => exact ⟨_, (true), sK, H', ⟨by first | omega | exact Nat.le_refl _⟩, ⟨by (with_reducible repeat (first | refine blk_drewN ?_ _ | refine blk_drew ?_ | refine blk_alloc ?_ _)); exact BK247.out⟩, ⟨bS⟩⟩
   ·rw [if_neg c6] at H
    have c6b0 : decide (8 < (a0_0.size : Int)) = false := decide_eq_false c6
    have c6b1 : decide (8 < a0_0.size) = false := decide_eq_false (by omega)
    clear c6
    by_cases c8 : 0 < (a0_0.size : Int)
    ·rw [if_pos c8] at H
     have c8b0 : decide (0 < (a0_0.size : Int)) = true := decide_eq_true c8
     have c8b1 : decide (0 < a0_0.size) = true := decide_eq_true (by omega)
     clear c8
     replace H := Option.bind_eq_some_iff.mp H
     obtain ⟨t248, A100, H⟩ := H
     replace H : (quaereref1_SymMay.j0 k (!t248) a0_0 a0_1 a0_2 a0_3) = some r := H
     have A10 := Aside0.mk A100
     clear A100
     have H' := Aside0.mk H
     clear H
     have hcz11_0 : w3.cell? ⟨gb247, 0, none⟩ = some (.string a0_0) := (blk_cell BK247.out 0).trans rfl
     have hcz11_1 : w3.cell? ⟨gb247, 1, none⟩ = some (.int .i64 a0_1) := (blk_cell BK247.out 1).trans rfl
     have hcz11_2 : w3.cell? ⟨gb247, 2, none⟩ = some (.int .i64 a0_2) := (blk_cell BK247.out 2).trans rfl
     have hcz11_3 : w3.cell? ⟨gb247, 3, none⟩ = some (.int .i64 a0_3) := (blk_cell BK247.out 3).trans rfl
     have hfz11_0 := blk_frozen BK247.out 0
     have hfz11_1 := blk_frozen BK247.out 1
     have hfz11_2 := blk_frozen BK247.out 2
     have hfz11_3 := blk_frozen BK247.out 3
     have p9 : 0 ≤ (0 : Int) := (by omega)
     have q9 : 0 < a0_0.size := (by have : (0 : Int) < (a0_0.size : Int) := of_decide_eq_true aK; omega)
     have hx9 : ∀ h : 0 < a0_0.size, ((a0_0[0]'h).toNat : Int) = bt a0_0 0 := bt_at a0_0 0
     clear p9
     have qi9 : (0 < (a0_0.size : Int)) = True := eq_true (of_decide_eq_true aK)
     replace q9 := eq_true q9
     go_wp2_with (first | (go_at_call 55; (with_reducible refine (quaereref1_small.calls (bt a0_0 0) t248 _ A10.out).mono ?_); rintro e w' ⟨rfl, ⟨nd, rfl⟩⟩))
     go_meet
     case rel => exact ⟨_, (!t248), sK, H', ⟨by first | omega | exact Nat.le_refl _⟩, ⟨by (with_reducible repeat (first | refine blk_drewN ?_ _ | refine blk_drew ?_ | refine blk_alloc ?_ _)); exact BK247.out⟩, ⟨bS⟩⟩
    ·rw [if_neg c8] at H
     exact absurd H (by simp)
 case rest =>
  clear HC2
  try clear p2
  try clear c4
  try clear c4b0
  try clear c4b1
  try clear c6
  try clear c6b0
  try clear c6b1
  try clear c8
  try clear c8b0
  try clear c8b1
  try clear p9
  try clear q9
  try clear hx9
  try clear qi9
  try clear hcz11_0
  try clear hcz11_1
  try clear hcz11_2
  try clear hcz11_3
  try clear hcz5_0
  try clear hcz5_1
  try clear hcz5_2
  try clear hcz5_3
  try clear hcz7_0
  try clear hcz7_1
  try clear hcz7_2
  try clear hcz7_3
  try clear hfz11_0
  try clear hfz11_1
  try clear hfz11_2
  try clear hfz11_3
  try clear hfz5_0
  try clear hfz5_1
  try clear hfz5_2
  try clear hfz5_3
  try clear hfz7_0
  try clear hfz7_1
  try clear hfz7_2
  try clear hfz7_3
  try clear p9
  try clear q9
  obtain ⟨kq, x20_1, rfl, HA, HJ1, BK247, HB⟩ := hcut
  cases kq with
  | zero => exact absurd HA.out (by simp [quaereref1_SymMay.j0])
  | succ kj1 =>
   have H := HA.out
   clear HA
   simp only [quaereref1_SymMay.j0] at H
   by_cases c12 : x20_1 = true
   ·subst c12
    have H1 : (some false) = some r := by rw [if_pos rfl] at H; exact H
    clear H
    have H := H1
    clear H1
    obtain rfl := Option.some.inj H
    go_wp2
    go_ret
    exact ⟨eK, bS⟩
   ·replace c12 := Bool.eq_false_iff.mpr c12
    subst c12
    have H1 : (quaereref1_SymMay.l0 kj1 0 a0_0 a0_1 a0_2 a0_3) = some r := by rw [if_neg (show ¬ (false = true) by decide)] at H; exact H
    clear H
    have H := H1
    clear H1
    have H' := Aside0.mk H
    clear H
    go_wp2
    go_loopg [3] kj1 (fun kq v3 w' => ∃ (x3_2 : Int), v3 = .int .i64 x3_2 ∧ Aside0 (quaereref1_SymMay.l0 kq x3_2 a0_0 a0_1 a0_2 a0_3 = some r) ∧ Aside0 (kq ≤ kj1) ∧ Aside0 (w'.heap[gb247]? = some (.cells #[.string a0_0, .int .i64 a0_1, .int .i64 a0_2, .int .i64 a0_3] 59 (0, 0))) ∧ Aside0 (Below w.heap.size w w'))
    case atStart => exact ⟨(0), sK, H', ⟨Nat.le_refl _⟩, ⟨by (with_reducible repeat (first | refine blk_drewN ?_ _ | refine blk_drew ?_ | refine blk_alloc ?_ _)); exact BK247.out⟩, ⟨bS⟩⟩
    case round =>
     clear H'
     try clear c1
     try clear p2
     try clear c4
     try clear c4b0
     try clear c4b1
     try clear c6
     try clear c6b0
     try clear c6b1
     try clear c8
     try clear c8b0
     try clear c8b1
     try clear p9
     try clear q9
     try clear hx9
     try clear qi9
     try clear c12
     try clear hcz11_0
     try clear hcz11_1
     try clear hcz11_2
     try clear hcz11_3
     try clear hcz5_0
     try clear hcz5_1
     try clear hcz5_2
     try clear hcz5_3
     try clear hcz7_0
     try clear hcz7_1
     try clear hcz7_2
     try clear hcz7_3
     try clear hfz11_0
     try clear hfz11_1
     try clear hfz11_2
     try clear hfz11_3
     try clear hfz5_0
     try clear hfz5_1
     try clear hfz5_2
     try clear hfz5_3
     try clear hfz7_0
     try clear hfz7_1
     try clear hfz7_2
     try clear hfz7_3
     try clear p2
     try clear p9
     try clear q9
     obtain ⟨x3_2, rfl, HA, HK2, BK247, HB⟩ := hrel
     cases gk with
     | zero => exact absurd HA.out (by simp [quaereref1_SymMay.l0])
     | succ k2 =>
      have H := HA.out
      clear HA
      simp only [quaereref1_SymMay.l0] at H
      by_cases c13 : x3_2 < (a0_0.size : Int)
      ·rw [if_pos c13] at H
       have c13b0 : decide (x3_2 < (a0_0.size : Int)) = true := decide_eq_true c13
       clear c13
       by_cases c14 : 0 ≤ x3_2
       ·rw [if_pos c14] at H
        have c14b0 : decide (0 ≤ x3_2) = true := decide_eq_true c14
        clear c14
        replace H := Option.bind_eq_some_iff.mp H
        obtain ⟨t249, A160, H⟩ := H
        replace H : (if t249 = true then (quaereref1_SymMay.l0 k2 (wrap64 (x3_2 + 1)) a0_0 a0_1 a0_2 a0_3) else (if (bt a0_0 x3_2) < 48 then (some false) else (if (bt a0_0 x3_2) > 57 then (some false) else (quaereref1_SymMay.l0 k2 (wrap64 (x3_2 + 1)) a0_0 a0_1 a0_2 a0_3)))) = some r := H
        have A16 := Aside0.mk A160
        clear A160
        by_cases c17 : t249 = true
        ·subst c17
         have H1 : (quaereref1_SymMay.l0 k2 (wrap64 (x3_2 + 1)) a0_0 a0_1 a0_2 a0_3) = some r := by rw [if_pos rfl] at H; exact H
         clear H
         have H := H1
         clear H1
         have H' := Aside0.mk H
         clear H
         have hcz18_0 : wr.cell? ⟨gb247, 0, none⟩ = some (.string a0_0) := (blk_cell BK247.out 0).trans rfl
         have hcz18_1 : wr.cell? ⟨gb247, 1, none⟩ = some (.int .i64 a0_1) := (blk_cell BK247.out 1).trans rfl
         have hcz18_2 : wr.cell? ⟨gb247, 2, none⟩ = some (.int .i64 a0_2) := (blk_cell BK247.out 2).trans rfl
         have hcz18_3 : wr.cell? ⟨gb247, 3, none⟩ = some (.int .i64 a0_3) := (blk_cell BK247.out 3).trans rfl
         have hfz18_0 := blk_frozen BK247.out 0
         have hfz18_1 := blk_frozen BK247.out 1
         have hfz18_2 := blk_frozen BK247.out 2
         have hfz18_3 := blk_frozen BK247.out 3
         have p15 : 0 ≤ (x3_2 : Int) := of_decide_eq_true aK
         have q15 : x3_2 < (a0_0.size : Int) := of_decide_eq_true aK
         have hx15 := bt_at a0_0 x3_2
         replace p15 := eq_true p15
         replace q15 := eq_true q15
         go_wp2_with (first | ((with_reducible refine gate_callee (f := 55) rfl ?_); refine goesL_ (some 32) rfl rfl Tryd.func55 (by kernel_rfl) rfl #[.int .u8 (bt a0_0 x3_2)] rfl mA ?_; (with_reducible refine (quaereref1_small.calls (bt a0_0 x3_2) true _ A16.out).mono ?_); rintro e w' ⟨rfl, ⟨nd, rfl⟩⟩; refine ⟨_, rfl, ?_⟩))
         go_roundg k2
         case measure => have := HJ1.out; have := HK2.out; omega
         case rel => exact ⟨(wrap64 (x3_2 + 1)), sK, H', ⟨by have := HJ1.out; have := HK2.out; omega⟩, ⟨by (with_reducible repeat (first | refine blk_drewN ?_ _ | refine blk_drew ?_ | refine blk_alloc ?_ _)); exact BK247.out⟩, ⟨bS⟩⟩
        ·replace c17 := Bool.eq_false_iff.mpr c17
         subst c17
         have H1 : (if (bt a0_0 x3_2) < 48 then (some false) else (if (bt a0_0 x3_2) > 57 then (some false) else (quaereref1_SymMay.l0 k2 (wrap64 (x3_2 + 1)) a0_0 a0_1 a0_2 a0_3))) = some r := by rw [if_neg (show ¬ (false = true) by decide)] at H; exact H
         clear H
         have H := H1
         clear H1
         by_cases c20 : (bt a0_0 x3_2) < 48
         ·rw [if_pos c20] at H
          have c20b0 : decide ((bt a0_0 x3_2) < 48) = true := decide_eq_true c20
          clear c20
          obtain rfl := Option.some.inj H
          have hcz21_0 : wr.cell? ⟨gb247, 0, none⟩ = some (.string a0_0) := (blk_cell BK247.out 0).trans rfl
          have hcz21_1 : wr.cell? ⟨gb247, 1, none⟩ = some (.int .i64 a0_1) := (blk_cell BK247.out 1).trans rfl
          have hcz21_2 : wr.cell? ⟨gb247, 2, none⟩ = some (.int .i64 a0_2) := (blk_cell BK247.out 2).trans rfl
          have hcz21_3 : wr.cell? ⟨gb247, 3, none⟩ = some (.int .i64 a0_3) := (blk_cell BK247.out 3).trans rfl
          have hfz21_0 := blk_frozen BK247.out 0
          have hfz21_1 := blk_frozen BK247.out 1
          have hfz21_2 := blk_frozen BK247.out 2
          have hfz21_3 := blk_frozen BK247.out 3
          have p15 : 0 ≤ (x3_2 : Int) := of_decide_eq_true aK
          have q15 : x3_2 < (a0_0.size : Int) := of_decide_eq_true aK
          have hx15 := bt_at a0_0 x3_2
          replace p15 := eq_true p15
          replace q15 := eq_true q15
          go_wp2_with (first | ((with_reducible refine gate_callee (f := 55) rfl ?_); refine goesL_ (some 32) rfl rfl Tryd.func55 (by kernel_rfl) rfl #[.int .u8 (bt a0_0 x3_2)] rfl mA ?_; (with_reducible refine (quaereref1_small.calls (bt a0_0 x3_2) false _ A16.out).mono ?_); rintro e w' ⟨rfl, ⟨nd, rfl⟩⟩; refine ⟨_, rfl, ?_⟩; have p19 : 0 ≤ (x3_2 : Int) := of_decide_eq_true aK; have q19 : x3_2 < (a0_0.size : Int) := of_decide_eq_true aK; have hx19 := bt_at a0_0 x3_2; replace p19 := eq_true p19; replace q19 := eq_true q19))
          go_ret
          exact ⟨eK, bS⟩
         ·rw [if_neg c20] at H
          have c20b0 : decide ((bt a0_0 x3_2) < 48) = false := decide_eq_false c20
          clear c20
          by_cases c23 : (bt a0_0 x3_2) > 57
          ·rw [if_pos c23] at H
           have c23b0 : decide (57 < (bt a0_0 x3_2)) = true := decide_eq_true c23
           clear c23
           obtain rfl := Option.some.inj H
           have hcz24_0 : wr.cell? ⟨gb247, 0, none⟩ = some (.string a0_0) := (blk_cell BK247.out 0).trans rfl
           have hcz24_1 : wr.cell? ⟨gb247, 1, none⟩ = some (.int .i64 a0_1) := (blk_cell BK247.out 1).trans rfl
           have hcz24_2 : wr.cell? ⟨gb247, 2, none⟩ = some (.int .i64 a0_2) := (blk_cell BK247.out 2).trans rfl
           have hcz24_3 : wr.cell? ⟨gb247, 3, none⟩ = some (.int .i64 a0_3) := (blk_cell BK247.out 3).trans rfl
           have hfz24_0 := blk_frozen BK247.out 0
           have hfz24_1 := blk_frozen BK247.out 1
           have hfz24_2 := blk_frozen BK247.out 2
           have hfz24_3 := blk_frozen BK247.out 3
           have p15 : 0 ≤ (x3_2 : Int) := of_decide_eq_true aK
           have q15 : x3_2 < (a0_0.size : Int) := of_decide_eq_true aK
           have hx15 := bt_at a0_0 x3_2
           replace p15 := eq_true p15
           replace q15 := eq_true q15
           go_wp2_with (first | ((with_reducible refine gate_callee (f := 55) rfl ?_); refine goesL_ (some 32) rfl rfl Tryd.func55 (by kernel_rfl) rfl #[.int .u8 (bt a0_0 x3_2)] rfl mA ?_; (with_reducible refine (quaereref1_small.calls (bt a0_0 x3_2) false _ A16.out).mono ?_); rintro e w' ⟨rfl, ⟨nd, rfl⟩⟩; refine ⟨_, rfl, ?_⟩; have p19 : 0 ≤ (x3_2 : Int) := of_decide_eq_true aK; have q19 : x3_2 < (a0_0.size : Int) := of_decide_eq_true aK; have hx19 := bt_at a0_0 x3_2; replace p19 := eq_true p19; replace q19 := eq_true q19; have p22 : 0 ≤ (x3_2 : Int) := of_decide_eq_true aK; have q22 : x3_2 < (a0_0.size : Int) := of_decide_eq_true aK; have hx22 := bt_at a0_0 x3_2; replace p22 := eq_true p22; replace q22 := eq_true q22))
           go_ret
           exact ⟨eK, bS⟩
          ·rw [if_neg c23] at H
           have c23b0 : decide (57 < (bt a0_0 x3_2)) = false := decide_eq_false c23
           clear c23
           have H' := Aside0.mk H
           clear H
           have hcz25_0 : wr.cell? ⟨gb247, 0, none⟩ = some (.string a0_0) := (blk_cell BK247.out 0).trans rfl
           have hcz25_1 : wr.cell? ⟨gb247, 1, none⟩ = some (.int .i64 a0_1) := (blk_cell BK247.out 1).trans rfl
           have hcz25_2 : wr.cell? ⟨gb247, 2, none⟩ = some (.int .i64 a0_2) := (blk_cell BK247.out 2).trans rfl
           have hcz25_3 : wr.cell? ⟨gb247, 3, none⟩ = some (.int .i64 a0_3) := (blk_cell BK247.out 3).trans rfl
           have hfz25_0 := blk_frozen BK247.out 0
           have hfz25_1 := blk_frozen BK247.out 1
           have hfz25_2 := blk_frozen BK247.out 2
           have hfz25_3 := blk_frozen BK247.out 3
           have p15 : 0 ≤ (x3_2 : Int) := of_decide_eq_true aK
           have q15 : x3_2 < (a0_0.size : Int) := of_decide_eq_true aK
           have hx15 := bt_at a0_0 x3_2
           replace p15 := eq_true p15
           replace q15 := eq_true q15
           go_wp2_with (first | ((with_reducible refine gate_callee (f := 55) rfl ?_); refine goesL_ (some 32) rfl rfl Tryd.func55 (by kernel_rfl) rfl #[.int .u8 (bt a0_0 x3_2)] rfl mA ?_; (with_reducible refine (quaereref1_small.calls (bt a0_0 x3_2) false _ A16.out).mono ?_); rintro e w' ⟨rfl, ⟨nd, rfl⟩⟩; refine ⟨_, rfl, ?_⟩; have p19 : 0 ≤ (x3_2 : Int) := of_decide_eq_true aK; have q19 : x3_2 < (a0_0.size : Int) := of_decide_eq_true aK; have hx19 := bt_at a0_0 x3_2; replace p19 := eq_true p19; replace q19 := eq_true q19; have p22 : 0 ≤ (x3_2 : Int) := of_decide_eq_true aK; have q22 : x3_2 < (a0_0.size : Int) := of_decide_eq_true aK; have hx22 := bt_at a0_0 x3_2; replace p22 := eq_true p22; replace q22 := eq_true q22))
           go_roundg k2
           case measure => have := HJ1.out; have := HK2.out; omega
           case rel => exact ⟨(wrap64 (x3_2 + 1)), sK, H', ⟨by have := HJ1.out; have := HK2.out; omega⟩, ⟨by (with_reducible repeat (first | refine blk_drewN ?_ _ | refine blk_drew ?_ | refine blk_alloc ?_ _)); exact BK247.out⟩, ⟨bS⟩⟩
       ·rw [if_neg c14] at H
        exact absurd H (by simp)
      ·rw [if_neg c13] at H
       have c13b0 : decide (x3_2 < (a0_0.size : Int)) = false := decide_eq_false c13
       clear c13
       by_cases c26 : a0_1 ≥ 0
       ·rw [if_pos c26] at H
        have c26b0 : decide (0 ≤ a0_1) = true := decide_eq_true c26
        clear c26
        by_cases c27 : a0_1 ≤ 2
        ·rw [if_pos c27] at H
         have c27b0 : decide (a0_1 ≤ 2) = true := decide_eq_true c27
         clear c27
         by_cases c28 : a0_2 ≥ 0
         ·rw [if_pos c28] at H
          have c28b0 : decide (0 ≤ a0_2) = true := decide_eq_true c28
          clear c28
          by_cases c29 : a0_2 ≤ 3
          ·rw [if_pos c29] at H
           have c29b0 : decide (a0_2 ≤ 3) = true := decide_eq_true c29
           clear c29
           by_cases c30 : a0_3 ≥ 1
           ·rw [if_pos c30] at H
            have c30b0 : decide (1 ≤ a0_3) = true := decide_eq_true c30
            clear c30
            obtain rfl := Option.some.inj H
            have hcz31_0 : wr.cell? ⟨gb247, 0, none⟩ = some (.string a0_0) := (blk_cell BK247.out 0).trans rfl
            have hcz31_1 : wr.cell? ⟨gb247, 1, none⟩ = some (.int .i64 a0_1) := (blk_cell BK247.out 1).trans rfl
            have hcz31_2 : wr.cell? ⟨gb247, 2, none⟩ = some (.int .i64 a0_2) := (blk_cell BK247.out 2).trans rfl
            have hcz31_3 : wr.cell? ⟨gb247, 3, none⟩ = some (.int .i64 a0_3) := (blk_cell BK247.out 3).trans rfl
            have hfz31_0 := blk_frozen BK247.out 0
            have hfz31_1 := blk_frozen BK247.out 1
            have hfz31_2 := blk_frozen BK247.out 2
            have hfz31_3 := blk_frozen BK247.out 3
            go_wp2
            go_ret
            exact ⟨eK, bS⟩
           ·rw [if_neg c30] at H
            have c30b0 : decide (1 ≤ a0_3) = false := decide_eq_false c30
            clear c30
            obtain rfl := Option.some.inj H
            have hcz32_0 : wr.cell? ⟨gb247, 0, none⟩ = some (.string a0_0) := (blk_cell BK247.out 0).trans rfl
            have hcz32_1 : wr.cell? ⟨gb247, 1, none⟩ = some (.int .i64 a0_1) := (blk_cell BK247.out 1).trans rfl
            have hcz32_2 : wr.cell? ⟨gb247, 2, none⟩ = some (.int .i64 a0_2) := (blk_cell BK247.out 2).trans rfl
            have hcz32_3 : wr.cell? ⟨gb247, 3, none⟩ = some (.int .i64 a0_3) := (blk_cell BK247.out 3).trans rfl
            have hfz32_0 := blk_frozen BK247.out 0
            have hfz32_1 := blk_frozen BK247.out 1
            have hfz32_2 := blk_frozen BK247.out 2
            have hfz32_3 := blk_frozen BK247.out 3
            go_wp2
            go_ret
            exact ⟨eK, bS⟩
          ·rw [if_neg c29] at H
           have c29b0 : decide (a0_2 ≤ 3) = false := decide_eq_false c29
           clear c29
           obtain rfl := Option.some.inj H
           have hcz33_0 : wr.cell? ⟨gb247, 0, none⟩ = some (.string a0_0) := (blk_cell BK247.out 0).trans rfl
           have hcz33_1 : wr.cell? ⟨gb247, 1, none⟩ = some (.int .i64 a0_1) := (blk_cell BK247.out 1).trans rfl
           have hcz33_2 : wr.cell? ⟨gb247, 2, none⟩ = some (.int .i64 a0_2) := (blk_cell BK247.out 2).trans rfl
           have hcz33_3 : wr.cell? ⟨gb247, 3, none⟩ = some (.int .i64 a0_3) := (blk_cell BK247.out 3).trans rfl
           have hfz33_0 := blk_frozen BK247.out 0
           have hfz33_1 := blk_frozen BK247.out 1
           have hfz33_2 := blk_frozen BK247.out 2
           have hfz33_3 := blk_frozen BK247.out 3
           go_wp2
           go_ret
           exact ⟨eK, bS⟩
         ·rw [if_neg c28] at H
          have c28b0 : decide (0 ≤ a0_2) = false := decide_eq_false c28
          clear c28
          obtain rfl := Option.some.inj H
          have hcz34_0 : wr.cell? ⟨gb247, 0, none⟩ = some (.string a0_0) := (blk_cell BK247.out 0).trans rfl
          have hcz34_1 : wr.cell? ⟨gb247, 1, none⟩ = some (.int .i64 a0_1) := (blk_cell BK247.out 1).trans rfl
          have hcz34_2 : wr.cell? ⟨gb247, 2, none⟩ = some (.int .i64 a0_2) := (blk_cell BK247.out 2).trans rfl
          have hcz34_3 : wr.cell? ⟨gb247, 3, none⟩ = some (.int .i64 a0_3) := (blk_cell BK247.out 3).trans rfl
          have hfz34_0 := blk_frozen BK247.out 0
          have hfz34_1 := blk_frozen BK247.out 1
          have hfz34_2 := blk_frozen BK247.out 2
          have hfz34_3 := blk_frozen BK247.out 3
          go_wp2
          go_ret
          exact ⟨eK, bS⟩
        ·rw [if_neg c27] at H
         have c27b0 : decide (a0_1 ≤ 2) = false := decide_eq_false c27
         clear c27
         obtain rfl := Option.some.inj H
         have hcz35_0 : wr.cell? ⟨gb247, 0, none⟩ = some (.string a0_0) := (blk_cell BK247.out 0).trans rfl
         have hcz35_1 : wr.cell? ⟨gb247, 1, none⟩ = some (.int .i64 a0_1) := (blk_cell BK247.out 1).trans rfl
         have hcz35_2 : wr.cell? ⟨gb247, 2, none⟩ = some (.int .i64 a0_2) := (blk_cell BK247.out 2).trans rfl
         have hcz35_3 : wr.cell? ⟨gb247, 3, none⟩ = some (.int .i64 a0_3) := (blk_cell BK247.out 3).trans rfl
         have hfz35_0 := blk_frozen BK247.out 0
         have hfz35_1 := blk_frozen BK247.out 1
         have hfz35_2 := blk_frozen BK247.out 2
         have hfz35_3 := blk_frozen BK247.out 3
         go_wp2
         go_ret
         exact ⟨eK, bS⟩
       ·rw [if_neg c26] at H
        have c26b0 : decide (0 ≤ a0_1) = false := decide_eq_false c26
        clear c26
        obtain rfl := Option.some.inj H
        have hcz36_0 : wr.cell? ⟨gb247, 0, none⟩ = some (.string a0_0) := (blk_cell BK247.out 0).trans rfl
        have hcz36_1 : wr.cell? ⟨gb247, 1, none⟩ = some (.int .i64 a0_1) := (blk_cell BK247.out 1).trans rfl
        have hcz36_2 : wr.cell? ⟨gb247, 2, none⟩ = some (.int .i64 a0_2) := (blk_cell BK247.out 2).trans rfl
        have hcz36_3 : wr.cell? ⟨gb247, 3, none⟩ = some (.int .i64 a0_3) := (blk_cell BK247.out 3).trans rfl
        have hfz36_0 := blk_frozen BK247.out 0
        have hfz36_1 := blk_frozen BK247.out 1
        have hfz36_2 := blk_frozen BK247.out 2
        have hfz36_3 := blk_frozen BK247.out 3
        go_wp2
        go_ret
        exact ⟨eK, bS⟩

/-! ### quaereref1_Code: function 41 -/
def quaereref1_Code.l0 : Nat → List (S59) → ByteArray → Int → Option (Int)
 | 0, _, _, _ => none
 | k + 1, x0, x1, x5 => if x5 < (x0.length : Int) then (if 0 ≤ x5 then (if ((rd_T59 x0 x5).f0).toList = x1.toList then (some x5) else (quaereref1_Code.l0 k x0 x1 (wrap64 (x5 + 1)))) else (none)) else (some (-1))
def quaereref1_Code.f (k : Nat) (l0 : List (S59)) (a1 : ByteArray) : Option (Int) := quaereref1_Code.l0 k l0 a1 0
theorem quaereref1_Code.mono_l : ∀ k, (∀ y0 y1 y2, LeO (quaereref1_Code.l0 k y0 y1 y2) (quaereref1_Code.l0 (k + 1) y0 y1 y2))
 | 0 => fun _ _ _ r h => by simp [quaereref1_Code.l0] at h
 | k + 1 => by
  have ih0 := quaereref1_Code.mono_l k
  ·intro y0 y1 y2
   unfold quaereref1_Code.l0
   repeat' first
   | (with_reducible exact ih0 _ _ _)
   | (with_reducible exact LeO.refl _)
   | (with_reducible exact LeO.none _)
   | (with_reducible refine LeO.ite ?_ ?_)
   | (with_reducible refine LeO.bind ?_ (fun _ => ?_))
   | exact ih0 _ _ _
   | exact LeO.none _
   | refine LeO.ite ?_ ?_
   | refine LeO.bind ?_ (fun _ => ?_)
theorem quaereref1_Code.mono : ∀ a0 a1 k, LeO (quaereref1_Code.f k a0 a1) (quaereref1_Code.f (k + 1) a0 a1) := by
 intro a0 a1 k
 have ih0 := quaereref1_Code.mono_l k
 unfold quaereref1_Code.f
 repeat' first
   | (with_reducible exact ih0 _ _ _)
   | (with_reducible exact LeO.refl _)
   | (with_reducible exact LeO.none _)
   | (with_reducible refine LeO.ite ?_ ?_)
   | (with_reducible refine LeO.bind ?_ (fun _ => ?_))
   | exact ih0 _ _ _
   | exact LeO.none _
   | refine LeO.ite ?_ ?_
   | refine LeO.bind ?_ (fun _ => ?_)
set_option maxHeartbeats 8000000 in
set_option maxRecDepth 100000 in
theorem quaereref1_Code.calls (k : Nat) (A0 : Option Addr) (c0 : Nat) (l0 : List (S59)) (a1 : ByteArray) (r : Int) (w : World) (hr0 : Kd.C k59 w A0 l0.length l0) (hc0 : l0.length ≤ c0) (h : quaereref1_Code.f k l0 a1 = some r) :
  Calls Tryd.prog 41 #[.slice A0 l0.length c0, .string a1] w fun e w' => e = .returned (.int .i64 r) ∧ Drawn0 w w' := by
 have HR0 := Aside0.mk hr0
 have HC0 := Aside0.mk hc0
 clear hr0 hc0
 have H : (quaereref1_Code.l0 k l0 a1 0) = some r := h
 clear h
 have H' := Aside0.mk H
 clear H
 go_enter Tryd.func41, Tryd.ntmps41
 go_wp2
 go_loopg [5] k (fun kq v5 w' => ∃ (x5_1 : Int), v5 = .int .i64 x5_1 ∧ Aside0 (quaereref1_Code.l0 kq l0 a1 x5_1 = some r) ∧ Aside0 (kq ≤ k) ∧ Drawn0 w w')
 case atStart => exact ⟨(0), sK, H', ⟨Nat.le_refl _⟩, by repeat (first | exact Drawn0.refl _ | apply Drawn0.step)⟩
 case round =>
  clear H'
  try clear p2
  obtain ⟨x5_1, rfl, HA, HK1, ⟨m1, rfl⟩⟩ := hrel
  cases gk with
  | zero => exact absurd HA.out (by simp [quaereref1_Code.l0])
  | succ k1 =>
   have H := HA.out
   clear HA
   simp only [quaereref1_Code.l0] at H
   by_cases c3 : x5_1 < (l0.length : Int)
   ·rw [if_pos c3] at H
    have c3b0 : decide (x5_1 < (l0.length : Int)) = true := decide_eq_true c3
    clear c3
    by_cases c4 : 0 ≤ x5_1
    ·rw [if_pos c4] at H
     have c4b0 : decide (0 ≤ x5_1) = true := decide_eq_true c4
     clear c4
     by_cases c5 : ((rd_T59 l0 x5_1).f0).toList = a1.toList
     ·rw [if_pos c5] at H
      have c5b0 : (((rd_T59 l0 x5_1).f0).toList == a1.toList) = true := beq_iff_eq.mpr c5
      have c5b1 : (((rd_T59 l0 x5_1).f0).toList != a1.toList) = false := bne_eq_false_iff_eq.mpr c5
      clear c5
      obtain rfl := Option.some.inj H
      have p250 : 0 ≤ (x5_1 : Int) := of_decide_eq_true aK
      have q250 : x5_1 < (l0.length : Int) := of_decide_eq_true aK
      obtain ⟨ad250, e250, hx250_0, hx250_1, hx250_2, hx250_3⟩ := at_T59 HR0.out x5_1 p250 q250
      cases e250
      replace p250 := eq_true p250
      replace q250 := eq_true q250
      go_wp2
      go_ret
      exact ⟨sK, by repeat (first | exact Drawn0.refl _ | apply Drawn0.step)⟩
     ·rw [if_neg c5] at H
      have c5b0 : (((rd_T59 l0 x5_1).f0).toList == a1.toList) = false := beq_eq_false_iff_ne.mpr c5
      have c5b1 : (((rd_T59 l0 x5_1).f0).toList != a1.toList) = true := bne_iff_ne.mpr c5
      have H' := Aside0.mk H
      clear H
      have p250 : 0 ≤ (x5_1 : Int) := of_decide_eq_true aK
      have q250 : x5_1 < (l0.length : Int) := of_decide_eq_true aK
      obtain ⟨ad250, e250, hx250_0, hx250_1, hx250_2, hx250_3⟩ := at_T59 HR0.out x5_1 p250 q250
      cases e250
      replace p250 := eq_true p250
      replace q250 := eq_true q250
      go_wp2
      go_roundg k1
      case measure => have := HK1.out; omega
      case rel => exact ⟨(wrap64 (x5_1 + 1)), sK, H', ⟨by have := HK1.out; omega⟩, by repeat (first | exact Drawn0.refl _ | apply Drawn0.step)⟩
    ·rw [if_neg c4] at H
     exact absurd H (by simp)
   ·rw [if_neg c3] at H
    have c3b0 : decide (x5_1 < (l0.length : Int)) = false := decide_eq_false c3
    clear c3
    obtain rfl := Option.some.inj H
    go_wp2
    go_ret
    exact ⟨sK, by repeat (first | exact Drawn0.refl _ | apply Drawn0.step)⟩

end Go.Proofs.YteffiodbflmfkaaDoor.PP
