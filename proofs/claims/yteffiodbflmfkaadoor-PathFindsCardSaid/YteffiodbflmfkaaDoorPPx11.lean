-- written by a program of this session's (wip/tools/pp.py), after the kit's print
import Derived.Test.YteffiodbflmfkaaDoorPPx0
import Derived.Test.YteffiodbflmfkaaDoorPPx1
import Derived.Test.YteffiodbflmfkaaDoorPPx10
namespace Go.Proofs.YteffiodbflmfkaaDoor.PP
open Go.RowKit Go.Proofs.YteffiodbflmfkaaDoorW.PrintWords Go.Proofs.YteffiodbflmfkaaDoorW.PrintLast Go.Proofs.YteffiodbflmfkaaDoorW.PrintMore
attribute [local go_sem] jump_ret jumpE_ret max2_int min2_int max_two min_two max_three min_three max_four min_four   -- for this text's walks alone
set_option linter.unusedVariables false
set_option linter.unusedSimpArgs false

attribute [local go_sem high] eqA59
/-! ### quaereref1_SignMay: function 26 -/
mutual
def quaereref1_SignMay.j0 : Nat → List (S59) → Bool → Option (Bool)
 | 0, _, _ => none
 | k + 1, x0, x18 => if x18 = true then (some false) else (quaereref1_SignMay.l0 k x0 1)
def quaereref1_SignMay.l0 : Nat → List (S59) → Int → Option (Bool)
 | 0, _, _ => none
 | k + 1, x0, x3 => if x3 < (x0.length : Int) then (if 0 ≤ x3 then ((quaereref1_SymMay.f k ((rd_T59 x0 x3).f0) ((rd_T59 x0 x3).f1) ((rd_T59 x0 x3).f2) ((rd_T59 x0 x3).f3)).bind fun t253 => (if t253 = true then ((quaereref1_Code.f k x0 ((rd_T59 x0 x3).f0)).bind fun t255 => (if t255 = x3 then (quaereref1_SignMay.l0 k x0 (wrap64 (x3 + 1))) else (some false))) else (some false))) else (none)) else (some true)
end
def quaereref1_SignMay.f (k : Nat) (l0 : List (S59)) : Option (Bool) := if (l0.length : Int) < 1 then (quaereref1_SignMay.j0 k l0 true) else (if (l0.length : Int) > 20 then (quaereref1_SignMay.j0 k l0 true) else (if 0 < (l0.length : Int) then (quaereref1_SignMay.j0 k l0 (!((((rd_T59 l0 0).f0).toList) == ([61] : List UInt8)) || (!(((rd_T59 l0 0).f1) == 0) || (!(((rd_T59 l0 0).f2) == 2) || (!(((rd_T59 l0 0).f3) == 1)))))) else (none)))
theorem quaereref1_SignMay.mono_l : ∀ k, (∀ y0 y1, LeO (quaereref1_SignMay.j0 k y0 y1) (quaereref1_SignMay.j0 (k + 1) y0 y1)) ∧ (∀ y0 y1, LeO (quaereref1_SignMay.l0 k y0 y1) (quaereref1_SignMay.l0 (k + 1) y0 y1))
 | 0 => ⟨fun _ _ r h => by simp [quaereref1_SignMay.j0] at h, fun _ _ r h => by simp [quaereref1_SignMay.l0] at h⟩
 | k + 1 => by
  obtain ⟨ih0, ih1⟩ := quaereref1_SignMay.mono_l k
  refine ⟨?_, ?_⟩
  ·intro y0 y1
   unfold quaereref1_SignMay.j0
   repeat' first
   | (with_reducible exact ih0 _ _)
   | (with_reducible exact ih1 _ _)
   | (with_reducible exact quaereref1_Code.mono _ _ _)
   | (with_reducible exact quaereref1_SymMay.mono _ _ _ _ _)
   | (with_reducible exact LeO.refl _)
   | (with_reducible exact LeO.none _)
   | (with_reducible refine LeO.ite ?_ ?_)
   | (with_reducible refine LeO.bind ?_ (fun _ => ?_))
   | exact ih0 _ _
   | exact ih1 _ _
   | exact quaereref1_Code.mono _ _ _
   | exact quaereref1_SymMay.mono _ _ _ _ _
   | exact LeO.none _
   | refine LeO.ite ?_ ?_
   | refine LeO.bind ?_ (fun _ => ?_)
  ·intro y0 y1
   unfold quaereref1_SignMay.l0
   repeat' first
   | (with_reducible exact ih0 _ _)
   | (with_reducible exact ih1 _ _)
   | (with_reducible exact quaereref1_Code.mono _ _ _)
   | (with_reducible exact quaereref1_SymMay.mono _ _ _ _ _)
   | (with_reducible exact LeO.refl _)
   | (with_reducible exact LeO.none _)
   | (with_reducible refine LeO.ite ?_ ?_)
   | (with_reducible refine LeO.bind ?_ (fun _ => ?_))
   | exact ih0 _ _
   | exact ih1 _ _
   | exact quaereref1_Code.mono _ _ _
   | exact quaereref1_SymMay.mono _ _ _ _ _
   | exact LeO.none _
   | refine LeO.ite ?_ ?_
   | refine LeO.bind ?_ (fun _ => ?_)
theorem quaereref1_SignMay.mono : ∀ a0 k, LeO (quaereref1_SignMay.f k a0) (quaereref1_SignMay.f (k + 1) a0) := by
 intro a0 k
 obtain ⟨ih0, ih1⟩ := quaereref1_SignMay.mono_l k
 unfold quaereref1_SignMay.f
 repeat' first
   | (with_reducible exact ih0 _ _)
   | (with_reducible exact ih1 _ _)
   | (with_reducible exact quaereref1_Code.mono _ _ _)
   | (with_reducible exact quaereref1_SymMay.mono _ _ _ _ _)
   | (with_reducible exact LeO.refl _)
   | (with_reducible exact LeO.none _)
   | (with_reducible refine LeO.ite ?_ ?_)
   | (with_reducible refine LeO.bind ?_ (fun _ => ?_))
   | exact ih0 _ _
   | exact ih1 _ _
   | exact quaereref1_Code.mono _ _ _
   | exact quaereref1_SymMay.mono _ _ _ _ _
   | exact LeO.none _
   | refine LeO.ite ?_ ?_
   | refine LeO.bind ?_ (fun _ => ?_)
set_option maxHeartbeats 8000000 in
set_option maxRecDepth 100000 in
theorem quaereref1_SignMay.calls (k : Nat) (A0 : Option Addr) (c0 : Nat) (l0 : List (S59)) (r : Bool) (w : World) (hr0 : Kd.C k59 w A0 l0.length l0) (hc0 : l0.length ≤ c0) (h : quaereref1_SignMay.f k l0 = some r) :
  Calls Tryd.prog 26 #[.slice A0 l0.length c0] w fun e w' => e = .returned (.bool r) ∧ Below w.heap.size w w' := by
 have hu59 := Tryd.underlying59
 have HR0 := Aside0.mk hr0
 have HC0 := Aside0.mk hc0
 clear hr0 hc0
 have HB := Aside0.mk (Below.refl w.heap.size w)
 have H : (if (l0.length : Int) < 1 then (quaereref1_SignMay.j0 k l0 true) else (if (l0.length : Int) > 20 then (quaereref1_SignMay.j0 k l0 true) else (if 0 < (l0.length : Int) then (quaereref1_SignMay.j0 k l0 (!((((rd_T59 l0 0).f0).toList) == ([61] : List UInt8)) || (!(((rd_T59 l0 0).f1) == 0) || (!(((rd_T59 l0 0).f2) == 2) || (!(((rd_T59 l0 0).f3) == 1)))))) else (none)))) = some r := h
 clear h
 have HC2 := Aside0.mk H
 clear H
 go_enter Tryd.func26, Tryd.ntmps26
 go_upto_region 1 with (fail)
 go_cut [18] (fun v18 wc => ∃ (kq : Nat) (x18_1 : Bool), v18 = .bool x18_1 ∧ Aside0 (quaereref1_SignMay.j0 kq l0 x18_1 = some r) ∧ Aside0 (kq ≤ k) ∧ Aside0 (Below w.heap.size w wc))
 case first =>
  have H := HC2.out
  clear HC2
  by_cases c3 : (l0.length : Int) < 1
  ·rw [if_pos c3] at H
   have c3b0 : decide ((l0.length : Int) < 1) = true := decide_eq_true c3
   have c3b1 : decide (l0.length < 1) = true := decide_eq_true (by omega)
   clear c3
   (first | rw [c3b0] | (simp only [i64_w, i32_w]; rw [c3b0]) | skip)
   have H' := Aside0.mk H
   clear H
   go_wp2
   go_meet
   case rel => exact ⟨_, (true), sK, H', ⟨by first | omega | exact Nat.le_refl _⟩, ⟨bB⟩⟩
  ·rw [if_neg c3] at H
   have c3b0 : decide ((l0.length : Int) < 1) = false := decide_eq_false c3
   have c3b1 : decide (l0.length < 1) = false := decide_eq_false (by omega)
   clear c3
   (first | rw [c3b0] | (simp only [i64_w, i32_w]; rw [c3b0]) | skip)
   by_cases c4 : (l0.length : Int) > 20
   ·rw [if_pos c4] at H
    have c4b0 : decide (20 < (l0.length : Int)) = true := decide_eq_true c4
    have c4b1 : decide (20 < l0.length) = true := decide_eq_true (by omega)
    clear c4
    have H' := Aside0.mk H
    clear H
    go_wp2
    go_meet
    case rel => exact ⟨_, (true), sK, H', ⟨by first | omega | exact Nat.le_refl _⟩, ⟨bB⟩⟩
   ·rw [if_neg c4] at H
    have c4b0 : decide (20 < (l0.length : Int)) = false := decide_eq_false c4
    have c4b1 : decide (20 < l0.length) = false := decide_eq_false (by omega)
    clear c4
    by_cases c5 : 0 < (l0.length : Int)
    ·rw [if_pos c5] at H
     have c5b0 : decide (0 < (l0.length : Int)) = true := decide_eq_true c5
     have c5b1 : decide (0 < l0.length) = true := decide_eq_true (by omega)
     clear c5
     have H' := Aside0.mk H
     clear H
     have p251 : 0 ≤ (0 : Int) := (by omega)
     have q251 : 0 < (l0.length : Int) := of_decide_eq_true aK
     obtain ⟨ad251, e251, hx251_0, hx251_1, hx251_2, hx251_3⟩ := at_T59 HR0.out 0 p251 q251
     cases e251
     have qi251 : (0 < l0.length) = True := eq_true (by omega)
     (try rw [show ((0 : Int)).toNat = 0 from rfl] at hx251_0)
     (try rw [show 0 * 4 = 0 from rfl] at hx251_0)
     (try rw [Addr.add_zero'] at hx251_0)
     (try rw [show ((0 : Int)).toNat = 0 from rfl] at hx251_1)
     (try rw [show 0 * 4 = 0 from rfl] at hx251_1)
     (try rw [Addr.add_zero'] at hx251_1)
     (try rw [show ((0 : Int)).toNat = 0 from rfl] at hx251_2)
     (try rw [show 0 * 4 = 0 from rfl] at hx251_2)
     (try rw [Addr.add_zero'] at hx251_2)
     (try rw [show ((0 : Int)).toNat = 0 from rfl] at hx251_3)
     (try rw [show 0 * 4 = 0 from rfl] at hx251_3)
     (try rw [Addr.add_zero'] at hx251_3)
     replace hx251_0 := (HB.out.cell (World.block_lt_of_cell? w _ hx251_0)).trans hx251_0
     replace hx251_1 := (HB.out.cell (World.block_lt_of_cell? w _ hx251_1)).trans hx251_1
     replace hx251_2 := (HB.out.cell (World.block_lt_of_cell? w _ hx251_2)).trans hx251_2
     replace hx251_3 := (HB.out.cell (World.block_lt_of_cell? w _ hx251_3)).trans hx251_3
     replace p251 := eq_true p251
     replace q251 := eq_true q251
     go_wp2
     go_meet
     case rel => exact ⟨_, ((!((((rd_T59 l0 0).f0).toList) == ([61] : List UInt8)) || (!(((rd_T59 l0 0).f1) == 0) || (!(((rd_T59 l0 0).f2) == 2) || (!(((rd_T59 l0 0).f3) == 1)))))), sK, H', ⟨by first | omega | exact Nat.le_refl _⟩, ⟨bB⟩⟩
    ·rw [if_neg c5] at H
     exact absurd H (by simp)
 case rest =>
  clear HC2
  try clear c2
  try clear p2
  try clear q2
  try clear hx2
  try clear qi2
  try clear c3
  try clear c3b0
  try clear c3b1
  try clear c4
  try clear c4b0
  try clear c4b1
  try clear c5
  try clear c5b0
  try clear c5b1
  try clear hx251_0
  try clear hx251_1
  try clear hx251_2
  try clear hx251_3
  try clear p251
  try clear q251
  obtain ⟨kq, x18_1, rfl, HA, HJ1, HB⟩ := hcut
  cases kq with
  | zero => exact absurd HA.out (by simp [quaereref1_SignMay.j0])
  | succ kj1 =>
   have H := HA.out
   clear HA
   simp only [quaereref1_SignMay.j0] at H
   by_cases c6 : x18_1 = true
   ·subst c6
    have H1 : (some false) = some r := by rw [if_pos rfl] at H; exact H
    clear H
    have H := H1
    clear H1
    obtain rfl := Option.some.inj H
    go_wp2
    go_ret
    exact ⟨eK, bB⟩
   ·replace c6 := Bool.eq_false_iff.mpr c6
    subst c6
    have H1 : (quaereref1_SignMay.l0 kj1 l0 1) = some r := by rw [if_neg (show ¬ (false = true) by decide)] at H; exact H
    clear H
    have H := H1
    clear H1
    have H' := Aside0.mk H
    clear H
    go_wp2
    go_loopg [3] kj1 (fun kq v3 w' => ∃ (x3_2 : Int), v3 = .int .i64 x3_2 ∧ Aside0 (quaereref1_SignMay.l0 kq l0 x3_2 = some r) ∧ Aside0 (kq ≤ kj1) ∧ Aside0 (Below w.heap.size w w'))
    case atStart => exact ⟨(1), sK, H', ⟨Nat.le_refl _⟩, ⟨bB⟩⟩
    case round =>
     clear H'
     try clear c2
     try clear p2
     try clear q2
     try clear hx2
     try clear qi2
     try clear c3
     try clear c3b0
     try clear c3b1
     try clear c4
     try clear c4b0
     try clear c4b1
     try clear c5
     try clear c5b0
     try clear c5b1
     try clear c6
     try clear hx251_0
     try clear hx251_1
     try clear hx251_2
     try clear hx251_3
     try clear p2
     try clear p251
     try clear q2
     try clear q251
     obtain ⟨x3_2, rfl, HA, HK2, HB⟩ := hrel
     cases gk with
     | zero => exact absurd HA.out (by simp [quaereref1_SignMay.l0])
     | succ k2 =>
      have H := HA.out
      clear HA
      simp only [quaereref1_SignMay.l0] at H
      by_cases c7 : x3_2 < (l0.length : Int)
      ·rw [if_pos c7] at H
       have c7b0 : decide (x3_2 < (l0.length : Int)) = true := decide_eq_true c7
       clear c7
       by_cases c8 : 0 ≤ x3_2
       ·rw [if_pos c8] at H
        have c8b0 : decide (0 ≤ x3_2) = true := decide_eq_true c8
        clear c8
        replace H := Option.bind_eq_some_iff.mp H
        obtain ⟨t253, A90, H⟩ := H
        replace H : (if t253 = true then ((quaereref1_Code.f k2 l0 ((rd_T59 l0 x3_2).f0)).bind fun t255 => (if t255 = x3_2 then (quaereref1_SignMay.l0 k2 l0 (wrap64 (x3_2 + 1))) else (some false))) else (some false)) = some r := H
        have A9 := Aside0.mk A90
        clear A90
        by_cases c10 : t253 = true
        ·subst c10
         have H1 : ((quaereref1_Code.f k2 l0 ((rd_T59 l0 x3_2).f0)).bind fun t255 => (if t255 = x3_2 then (quaereref1_SignMay.l0 k2 l0 (wrap64 (x3_2 + 1))) else (some false))) = some r := by rw [if_pos rfl] at H; exact H
         clear H
         have H := H1
         clear H1
         replace H := Option.bind_eq_some_iff.mp H
         obtain ⟨t255, A110, H⟩ := H
         replace H : (if t255 = x3_2 then (quaereref1_SignMay.l0 k2 l0 (wrap64 (x3_2 + 1))) else (some false)) = some r := H
         have A11 := Aside0.mk A110
         clear A110
         by_cases c12 : t255 = x3_2
         ·rw [if_pos c12] at H
          have c12b0 : (t255 == x3_2) = true := beq_iff_eq.mpr c12
          have c12b1 : (t255 != x3_2) = false := bne_eq_false_iff_eq.mpr c12
          clear c12
          have H' := Aside0.mk H
          clear H
          have p252 : 0 ≤ (x3_2 : Int) := of_decide_eq_true aK
          have q252 : x3_2 < (l0.length : Int) := of_decide_eq_true aK
          obtain ⟨ad252, e252, hx252_0, hx252_1, hx252_2, hx252_3⟩ := at_T59 HR0.out x3_2 p252 q252
          cases e252
          replace hx252_0 := (HB.out.cell (World.block_lt_of_cell? w _ hx252_0)).trans hx252_0
          replace hx252_1 := (HB.out.cell (World.block_lt_of_cell? w _ hx252_1)).trans hx252_1
          replace hx252_2 := (HB.out.cell (World.block_lt_of_cell? w _ hx252_2)).trans hx252_2
          replace hx252_3 := (HB.out.cell (World.block_lt_of_cell? w _ hx252_3)).trans hx252_3
          replace p252 := eq_true p252
          replace q252 := eq_true q252
          go_wp2_with (first | ((with_reducible refine gate_callee (f := 40) rfl ?_); refine goesL_ (some 29) rfl rfl Tryd.func40 (by kernel_rfl) rfl #[.agg #[.string ((rd_T59 l0 x3_2).f0), .int .i64 ((rd_T59 l0 x3_2).f1), .int .i64 ((rd_T59 l0 x3_2).f2), .int .i64 ((rd_T59 l0 x3_2).f3)]] rfl mA ?_; (with_reducible refine (quaereref1_SymMay.calls k2 ((rd_T59 l0 x3_2).f0) ((rd_T59 l0 x3_2).f1) ((rd_T59 l0 x3_2).f2) ((rd_T59 l0 x3_2).f3) true _ A9.out).mono ?_); rintro e w13 ⟨rfl, hb⟩; refine ⟨_, rfl, ?_⟩; have n0_ := Aside0.mk (below_step bB hb); clear HB; have HB := n0_; clear n0_; (try clear hb); (try clear hb2); (try clear hk); (try clear hi); have p254 : 0 ≤ (x3_2 : Int) := of_decide_eq_true aK; have q254 : x3_2 < (l0.length : Int) := of_decide_eq_true aK; obtain ⟨ad254, e254, hx254_0, hx254_1, hx254_2, hx254_3⟩ := at_T59 HR0.out x3_2 p254 q254; obtain rfl : ad252 = ad254 := (by injection e254); replace hx254_0 := (HB.out.cell (World.block_lt_of_cell? w _ hx254_0)).trans hx254_0; replace hx254_1 := (HB.out.cell (World.block_lt_of_cell? w _ hx254_1)).trans hx254_1; replace hx254_2 := (HB.out.cell (World.block_lt_of_cell? w _ hx254_2)).trans hx254_2; replace hx254_3 := (HB.out.cell (World.block_lt_of_cell? w _ hx254_3)).trans hx254_3; replace p254 := eq_true p254; replace q254 := eq_true q254) | (go_at_call 41; (with_reducible refine (quaereref1_Code.calls k2 _ _ l0 ((rd_T59 l0 x3_2).f0) t255 _ ?side1 ?side2 A11.out).mono ?_); (case side1 => exact cK (Kd.C_below HR0.out HB.out)); (case side2 => exact HC0.out); rintro e w' ⟨rfl, ⟨nd, rfl⟩⟩))
          go_roundg k2
          case measure => have := HJ1.out; have := HK2.out; omega
          case rel => exact ⟨(wrap64 (x3_2 + 1)), sK, H', ⟨by have := HJ1.out; have := HK2.out; omega⟩, ⟨bB⟩⟩
         ·rw [if_neg c12] at H
          have c12b0 : (t255 == x3_2) = false := beq_eq_false_iff_ne.mpr c12
          have c12b1 : (t255 != x3_2) = true := bne_iff_ne.mpr c12
          obtain rfl := Option.some.inj H
          have p252 : 0 ≤ (x3_2 : Int) := of_decide_eq_true aK
          have q252 : x3_2 < (l0.length : Int) := of_decide_eq_true aK
          obtain ⟨ad252, e252, hx252_0, hx252_1, hx252_2, hx252_3⟩ := at_T59 HR0.out x3_2 p252 q252
          cases e252
          replace hx252_0 := (HB.out.cell (World.block_lt_of_cell? w _ hx252_0)).trans hx252_0
          replace hx252_1 := (HB.out.cell (World.block_lt_of_cell? w _ hx252_1)).trans hx252_1
          replace hx252_2 := (HB.out.cell (World.block_lt_of_cell? w _ hx252_2)).trans hx252_2
          replace hx252_3 := (HB.out.cell (World.block_lt_of_cell? w _ hx252_3)).trans hx252_3
          replace p252 := eq_true p252
          replace q252 := eq_true q252
          go_wp2_with (first | ((with_reducible refine gate_callee (f := 40) rfl ?_); refine goesL_ (some 29) rfl rfl Tryd.func40 (by kernel_rfl) rfl #[.agg #[.string ((rd_T59 l0 x3_2).f0), .int .i64 ((rd_T59 l0 x3_2).f1), .int .i64 ((rd_T59 l0 x3_2).f2), .int .i64 ((rd_T59 l0 x3_2).f3)]] rfl mA ?_; (with_reducible refine (quaereref1_SymMay.calls k2 ((rd_T59 l0 x3_2).f0) ((rd_T59 l0 x3_2).f1) ((rd_T59 l0 x3_2).f2) ((rd_T59 l0 x3_2).f3) true _ A9.out).mono ?_); rintro e w14 ⟨rfl, hb⟩; refine ⟨_, rfl, ?_⟩; have n0_ := Aside0.mk (below_step bB hb); clear HB; have HB := n0_; clear n0_; (try clear hb); (try clear hb2); (try clear hk); (try clear hi); have p254 : 0 ≤ (x3_2 : Int) := of_decide_eq_true aK; have q254 : x3_2 < (l0.length : Int) := of_decide_eq_true aK; obtain ⟨ad254, e254, hx254_0, hx254_1, hx254_2, hx254_3⟩ := at_T59 HR0.out x3_2 p254 q254; obtain rfl : ad252 = ad254 := (by injection e254); replace hx254_0 := (HB.out.cell (World.block_lt_of_cell? w _ hx254_0)).trans hx254_0; replace hx254_1 := (HB.out.cell (World.block_lt_of_cell? w _ hx254_1)).trans hx254_1; replace hx254_2 := (HB.out.cell (World.block_lt_of_cell? w _ hx254_2)).trans hx254_2; replace hx254_3 := (HB.out.cell (World.block_lt_of_cell? w _ hx254_3)).trans hx254_3; replace p254 := eq_true p254; replace q254 := eq_true q254) | (go_at_call 41; (with_reducible refine (quaereref1_Code.calls k2 _ _ l0 ((rd_T59 l0 x3_2).f0) t255 _ ?side1 ?side2 A11.out).mono ?_); (case side1 => exact cK (Kd.C_below HR0.out HB.out)); (case side2 => exact HC0.out); rintro e w' ⟨rfl, ⟨nd, rfl⟩⟩))
          go_ret
          exact ⟨eK, bB⟩
        ·replace c10 := Bool.eq_false_iff.mpr c10
         subst c10
         have H1 : (some false) = some r := by rw [if_neg (show ¬ (false = true) by decide)] at H; exact H
         clear H
         have H := H1
         clear H1
         obtain rfl := Option.some.inj H
         have p252 : 0 ≤ (x3_2 : Int) := of_decide_eq_true aK
         have q252 : x3_2 < (l0.length : Int) := of_decide_eq_true aK
         obtain ⟨ad252, e252, hx252_0, hx252_1, hx252_2, hx252_3⟩ := at_T59 HR0.out x3_2 p252 q252
         cases e252
         replace hx252_0 := (HB.out.cell (World.block_lt_of_cell? w _ hx252_0)).trans hx252_0
         replace hx252_1 := (HB.out.cell (World.block_lt_of_cell? w _ hx252_1)).trans hx252_1
         replace hx252_2 := (HB.out.cell (World.block_lt_of_cell? w _ hx252_2)).trans hx252_2
         replace hx252_3 := (HB.out.cell (World.block_lt_of_cell? w _ hx252_3)).trans hx252_3
         replace p252 := eq_true p252
         replace q252 := eq_true q252
         go_wp2_with (first | ((with_reducible refine gate_callee (f := 40) rfl ?_); refine goesL_ (some 29) rfl rfl Tryd.func40 (by kernel_rfl) rfl #[.agg #[.string ((rd_T59 l0 x3_2).f0), .int .i64 ((rd_T59 l0 x3_2).f1), .int .i64 ((rd_T59 l0 x3_2).f2), .int .i64 ((rd_T59 l0 x3_2).f3)]] rfl mA ?_; (with_reducible refine (quaereref1_SymMay.calls k2 ((rd_T59 l0 x3_2).f0) ((rd_T59 l0 x3_2).f1) ((rd_T59 l0 x3_2).f2) ((rd_T59 l0 x3_2).f3) false _ A9.out).mono ?_); rintro e w15 ⟨rfl, hb⟩; refine ⟨_, rfl, ?_⟩; have n0_ := Aside0.mk (below_step bB hb); clear HB; have HB := n0_; clear n0_; (try clear hb); (try clear hb2); (try clear hk); (try clear hi)))
         go_ret
         exact ⟨eK, bB⟩
       ·rw [if_neg c8] at H
        exact absurd H (by simp)
      ·rw [if_neg c7] at H
       have c7b0 : decide (x3_2 < (l0.length : Int)) = false := decide_eq_false c7
       clear c7
       obtain rfl := Option.some.inj H
       go_wp2
       go_ret
       exact ⟨eK, bB⟩

/-! ### quaereref1_End: function 66 -/
mutual
def quaereref1_End.l0 : Nat → List (S59) → List Int → Int → Int → Option (Int)
 | 0, _, _, _, _ => none
 | k + 1, x0, x1, x7, x8 => if x7 > 0 then (if x8 ≥ (x1.length : Int) then (quaereref1_End.j1 k x0 x1 x7 x8 true) else (if 0 ≤ x8 then (if x8 < (x1.length : Int) then (if (rd x1 x8) < (-24) then (quaereref1_End.j1 k x0 x1 x7 x8 true) else (quaereref1_End.j1 k x0 x1 x7 x8 (decide ((rd x1 x8) ≥ (x0.length : Int))))) else (none)) else (none))) else (some x8)
def quaereref1_End.j1 : Nat → List (S59) → List Int → Int → Int → Bool → Option (Int)
 | 0, _, _, _, _, _ => none
 | k + 1, x0, x1, x7, x8, x31 => if x31 = true then (some (-1)) else (if 0 ≤ x8 then (if x8 < (x1.length : Int) then (if (rd x1 x8) ≥ 0 then (if 0 ≤ (rd x1 x8) then (if (rd x1 x8) < (x0.length : Int) then (if ((rd_T59 x0 (rd x1 x8)).f1) = 0 then (some (-1)) else (quaereref1_End.l0 k x0 x1 (wrap64 ((wrap64 (x7 - 1)) + ((rd_T59 x0 (rd x1 x8)).f2))) (wrap64 (x8 + 1)))) else (none)) else (none)) else (quaereref1_End.l0 k x0 x1 (wrap64 (x7 - 1)) (wrap64 (x8 + 1)))) else (none)) else (none))
end
def quaereref1_End.f (k : Nat) (l0 : List (S59)) (l1 : List Int) (a2 : Int) : Option (Int) := quaereref1_End.l0 k l0 l1 1 a2
theorem quaereref1_End.mono_l : ∀ k, (∀ y0 y1 y2 y3, LeO (quaereref1_End.l0 k y0 y1 y2 y3) (quaereref1_End.l0 (k + 1) y0 y1 y2 y3)) ∧ (∀ y0 y1 y2 y3 y4, LeO (quaereref1_End.j1 k y0 y1 y2 y3 y4) (quaereref1_End.j1 (k + 1) y0 y1 y2 y3 y4))
 | 0 => ⟨fun _ _ _ _ r h => by simp [quaereref1_End.l0] at h, fun _ _ _ _ _ r h => by simp [quaereref1_End.j1] at h⟩
 | k + 1 => by
  obtain ⟨ih0, ih1⟩ := quaereref1_End.mono_l k
  refine ⟨?_, ?_⟩
  ·intro y0 y1 y2 y3
   unfold quaereref1_End.l0
   repeat' first
   | (with_reducible exact ih0 _ _ _ _)
   | (with_reducible exact ih1 _ _ _ _ _)
   | (with_reducible exact LeO.refl _)
   | (with_reducible exact LeO.none _)
   | (with_reducible refine LeO.ite ?_ ?_)
   | (with_reducible refine LeO.bind ?_ (fun _ => ?_))
   | exact ih0 _ _ _ _
   | exact ih1 _ _ _ _ _
   | exact LeO.none _
   | refine LeO.ite ?_ ?_
   | refine LeO.bind ?_ (fun _ => ?_)
  ·intro y0 y1 y2 y3 y4
   unfold quaereref1_End.j1
   repeat' first
   | (with_reducible exact ih0 _ _ _ _)
   | (with_reducible exact ih1 _ _ _ _ _)
   | (with_reducible exact LeO.refl _)
   | (with_reducible exact LeO.none _)
   | (with_reducible refine LeO.ite ?_ ?_)
   | (with_reducible refine LeO.bind ?_ (fun _ => ?_))
   | exact ih0 _ _ _ _
   | exact ih1 _ _ _ _ _
   | exact LeO.none _
   | refine LeO.ite ?_ ?_
   | refine LeO.bind ?_ (fun _ => ?_)
theorem quaereref1_End.mono : ∀ a0 a1 a2 k, LeO (quaereref1_End.f k a0 a1 a2) (quaereref1_End.f (k + 1) a0 a1 a2) := by
 intro a0 a1 a2 k
 obtain ⟨ih0, ih1⟩ := quaereref1_End.mono_l k
 unfold quaereref1_End.f
 repeat' first
   | (with_reducible exact ih0 _ _ _ _)
   | (with_reducible exact ih1 _ _ _ _ _)
   | (with_reducible exact LeO.refl _)
   | (with_reducible exact LeO.none _)
   | (with_reducible refine LeO.ite ?_ ?_)
   | (with_reducible refine LeO.bind ?_ (fun _ => ?_))
   | exact ih0 _ _ _ _
   | exact ih1 _ _ _ _ _
   | exact LeO.none _
   | refine LeO.ite ?_ ?_
   | refine LeO.bind ?_ (fun _ => ?_)
set_option maxHeartbeats 8000000 in
set_option maxRecDepth 100000 in
theorem quaereref1_End.calls (k : Nat) (A0 : Option Addr) (c0 : Nat) (l0 : List (S59)) (A1 : Option Addr) (c1 : Nat) (l1 : List Int) (a2 : Int) (r : Int) (w : World) (hr0 : Kd.C k59 w A0 l0.length l0) (hc0 : l0.length ≤ c0) (hr1 : Kd.C (Kd.int .i64) w A1 l1.length l1) (hc1 : l1.length ≤ c1) (h : quaereref1_End.f k l0 l1 a2 = some r) :
  Calls Tryd.prog 66 #[.slice A0 l0.length c0, .slice A1 l1.length c1, .int .i64 a2] w fun e w' => e = .returned (.int .i64 r) ∧ Drawn0 w w' := by
 have HR0 := Aside0.mk hr0
 have HC0 := Aside0.mk hc0
 clear hr0 hc0
 have HR1 := Aside0.mk hr1
 have HC1 := Aside0.mk hc1
 clear hr1 hc1
 have H : (quaereref1_End.l0 k l0 l1 1 a2) = some r := h
 clear h
 have H' := Aside0.mk H
 clear H
 go_enter Tryd.func66, Tryd.ntmps66
 go_wp2
 go_loopg [7, 8] k (fun kq v7 v8 w' => ∃ (x7_1 : Int) (x8_1 : Int), v7 = .int .i64 x7_1 ∧ v8 = .int .i64 x8_1 ∧ Aside0 (quaereref1_End.l0 kq l0 l1 x7_1 x8_1 = some r) ∧ Aside0 (kq ≤ k) ∧ Drawn0 w w')
 case atStart => exact ⟨(1), (a2), sK, sK, H', ⟨Nat.le_refl _⟩, by repeat (first | exact Drawn0.refl _ | apply Drawn0.step)⟩
 case round =>
  clear H'
  try clear c1
  try clear p2
  obtain ⟨x7_1, x8_1, rfl, rfl, HA, HK1, ⟨m1, rfl⟩⟩ := hrel
  cases gk with
  | zero => exact absurd HA.out (by simp [quaereref1_End.l0])
  | succ k1 =>
   have H := HA.out
   clear HA
   simp only [quaereref1_End.l0] at H
   by_cases c4 : x7_1 > 0
   ·rw [if_pos c4] at H
    have c4b0 : decide (0 < x7_1) = true := decide_eq_true c4
    clear c4
    have HC5 := Aside0.mk H
    clear H
    go_upto_region 3 with (fail)
    go_cut [31] (fun v31 wc => ∃ (kq : Nat) (x31_4 : Bool), v31 = .bool x31_4 ∧ Aside0 (quaereref1_End.j1 kq l0 l1 x7_1 x8_1 x31_4 = some r) ∧ Aside0 (kq ≤ k1) ∧ Drawn0 w wc)
    case first =>
     have H := HC5.out
     clear HC5
     by_cases c6 : x8_1 ≥ (l1.length : Int)
     ·rw [if_pos c6] at H
      have c6b0 : decide ((l1.length : Int) ≤ x8_1) = true := decide_eq_true c6
      clear c6
      (first | rw [c6b0] | (simp only [i64_w, i32_w]; rw [c6b0]) | skip)
      have H' := Aside0.mk H
      clear H
      go_wp2
      go_meet
      case rel => exact ⟨_, (true), sK, H', ⟨by have := HK1.out; first | omega | exact Nat.le_refl _⟩, by repeat (first | exact Drawn0.refl _ | apply Drawn0.step)⟩
     ·rw [if_neg c6] at H
      have c6b0 : decide ((l1.length : Int) ≤ x8_1) = false := decide_eq_false c6
      clear c6
      (first | rw [c6b0] | (simp only [i64_w, i32_w]; rw [c6b0]) | skip)
      by_cases c7 : 0 ≤ x8_1
      ·rw [if_pos c7] at H
       have c7b0 : decide (0 ≤ x8_1) = true := decide_eq_true c7
       clear c7
       by_cases c8 : x8_1 < (l1.length : Int)
       ·rw [if_pos c8] at H
        have c8b0 : decide (x8_1 < (l1.length : Int)) = true := decide_eq_true c8
        clear c8
        by_cases c9 : (rd l1 x8_1) < (-24)
        ·rw [if_pos c9] at H
         have c9b0 : decide ((rd l1 x8_1) < (-24)) = true := decide_eq_true c9
         clear c9
         have H' := Aside0.mk H
         clear H
         have p256 : 0 ≤ (x8_1 : Int) := of_decide_eq_true aK
         have q256 : x8_1 < (l1.length : Int) := of_decide_eq_true aK
         obtain ⟨ad256, e256, hx256_0⟩ := Kd.at_int HR1.out x8_1 p256 q256
         cases e256
         replace p256 := eq_true p256
         replace q256 := eq_true q256
         go_wp2
         go_meet
         case rel => exact ⟨_, (true), sK, H', ⟨by have := HK1.out; first | omega | exact Nat.le_refl _⟩, by repeat (first | exact Drawn0.refl _ | apply Drawn0.step)⟩
        ·rw [if_neg c9] at H
         have c9b0 : decide ((rd l1 x8_1) < (-24)) = false := decide_eq_false c9
         clear c9
         have H' := Aside0.mk H
         clear H
         have p256 : 0 ≤ (x8_1 : Int) := of_decide_eq_true aK
         have q256 : x8_1 < (l1.length : Int) := of_decide_eq_true aK
         obtain ⟨ad256, e256, hx256_0⟩ := Kd.at_int HR1.out x8_1 p256 q256
         cases e256
         replace p256 := eq_true p256
         replace q256 := eq_true q256
         have p257 : 0 ≤ (x8_1 : Int) := of_decide_eq_true aK
         have q257 : x8_1 < (l1.length : Int) := of_decide_eq_true aK
         obtain ⟨ad257, e257, hx257_0⟩ := Kd.at_int HR1.out x8_1 p257 q257
         obtain rfl : ad256 = ad257 := (by injection e257)
         replace p257 := eq_true p257
         replace q257 := eq_true q257
         go_wp2
         go_meet
         case rel => exact ⟨_, (decide ((rd l1 x8_1) ≥ (l0.length : Int))), sK, H', ⟨by have := HK1.out; first | omega | exact Nat.le_refl _⟩, by repeat (first | exact Drawn0.refl _ | apply Drawn0.step)⟩
       ·rw [if_neg c8] at H
        exact absurd H (by simp)
      ·rw [if_neg c7] at H
       exact absurd H (by simp)
    case rest =>
     clear HC5
     try clear c1
     try clear p2
     try clear q2
     try clear hx2
     try clear c4
     try clear c4b0
     try clear c6
     try clear c6b0
     try clear c7
     try clear c7b0
     try clear c8
     try clear c8b0
     try clear c9
     try clear c9b0
     try clear hx256_0
     try clear hx257_0
     try clear p2
     try clear p256
     try clear p257
     try clear q256
     try clear q257
     obtain ⟨kq, x31_4, rfl, HA, HJ4, ⟨mc4, rfl⟩⟩ := hcut
     cases kq with
     | zero => exact absurd HA.out (by simp [quaereref1_End.j1])
     | succ kj4 =>
      have H := HA.out
      clear HA
      simp only [quaereref1_End.j1] at H
      by_cases c10 : x31_4 = true
      ·subst c10
       have H1 : (some (-1)) = some r := by rw [if_pos rfl] at H; exact H
       clear H
       have H := H1
       clear H1
       obtain rfl := Option.some.inj H
       go_wp2
       go_ret
       exact ⟨sK, by repeat (first | exact Drawn0.refl _ | apply Drawn0.step)⟩
      ·replace c10 := Bool.eq_false_iff.mpr c10
       subst c10
       have H1 : (if 0 ≤ x8_1 then (if x8_1 < (l1.length : Int) then (if (rd l1 x8_1) ≥ 0 then (if 0 ≤ (rd l1 x8_1) then (if (rd l1 x8_1) < (l0.length : Int) then (if ((rd_T59 l0 (rd l1 x8_1)).f1) = 0 then (some (-1)) else (quaereref1_End.l0 kj4 l0 l1 (wrap64 ((wrap64 (x7_1 - 1)) + ((rd_T59 l0 (rd l1 x8_1)).f2))) (wrap64 (x8_1 + 1)))) else (none)) else (none)) else (quaereref1_End.l0 kj4 l0 l1 (wrap64 (x7_1 - 1)) (wrap64 (x8_1 + 1)))) else (none)) else (none)) = some r := by rw [if_neg (show ¬ (false = true) by decide)] at H; exact H
       clear H
       have H := H1
       clear H1
       by_cases c11 : 0 ≤ x8_1
       ·rw [if_pos c11] at H
        have c11b0 : decide (0 ≤ x8_1) = true := decide_eq_true c11
        clear c11
        by_cases c12 : x8_1 < (l1.length : Int)
        ·rw [if_pos c12] at H
         have c12b0 : decide (x8_1 < (l1.length : Int)) = true := decide_eq_true c12
         clear c12
         by_cases c13 : (rd l1 x8_1) ≥ 0
         ·rw [if_pos c13] at H
          have c13b0 : decide (0 ≤ (rd l1 x8_1)) = true := decide_eq_true c13
          clear c13
          by_cases c14 : 0 ≤ (rd l1 x8_1)
          ·rw [if_pos c14] at H
           have c14b0 : decide (0 ≤ (rd l1 x8_1)) = true := decide_eq_true c14
           clear c14
           by_cases c15 : (rd l1 x8_1) < (l0.length : Int)
           ·rw [if_pos c15] at H
            have c15b0 : decide ((rd l1 x8_1) < (l0.length : Int)) = true := decide_eq_true c15
            clear c15
            by_cases c16 : ((rd_T59 l0 (rd l1 x8_1)).f1) = 0
            ·rw [if_pos c16] at H
             have c16b0 : (((rd_T59 l0 (rd l1 x8_1)).f1) == 0) = true := beq_iff_eq.mpr c16
             have c16b1 : (((rd_T59 l0 (rd l1 x8_1)).f1) != 0) = false := bne_eq_false_iff_eq.mpr c16
             clear c16
             obtain rfl := Option.some.inj H
             have p258 : 0 ≤ (x8_1 : Int) := of_decide_eq_true aK
             have q258 : x8_1 < (l1.length : Int) := of_decide_eq_true aK
             obtain ⟨ad258, e258, hx258_0⟩ := Kd.at_int HR1.out x8_1 p258 q258
             cases e258
             replace p258 := eq_true p258
             replace q258 := eq_true q258
             have p259 : 0 ≤ (x8_1 : Int) := of_decide_eq_true aK
             have q259 : x8_1 < (l1.length : Int) := of_decide_eq_true aK
             obtain ⟨ad259, e259, hx259_0⟩ := Kd.at_int HR1.out x8_1 p259 q259
             obtain rfl : ad258 = ad259 := (by injection e259)
             replace p259 := eq_true p259
             replace q259 := eq_true q259
             have p260 : 0 ≤ ((rd l1 x8_1) : Int) := of_decide_eq_true aK
             have q260 : (rd l1 x8_1) < (l0.length : Int) := of_decide_eq_true aK
             obtain ⟨ad260, e260, hx260_0, hx260_1, hx260_2, hx260_3⟩ := at_T59 HR0.out (rd l1 x8_1) p260 q260
             cases e260
             replace p260 := eq_true p260
             replace q260 := eq_true q260
             go_wp2
             go_ret
             exact ⟨sK, by repeat (first | exact Drawn0.refl _ | apply Drawn0.step)⟩
            ·rw [if_neg c16] at H
             have c16b0 : (((rd_T59 l0 (rd l1 x8_1)).f1) == 0) = false := beq_eq_false_iff_ne.mpr c16
             have c16b1 : (((rd_T59 l0 (rd l1 x8_1)).f1) != 0) = true := bne_iff_ne.mpr c16
             have H' := Aside0.mk H
             clear H
             have p258 : 0 ≤ (x8_1 : Int) := of_decide_eq_true aK
             have q258 : x8_1 < (l1.length : Int) := of_decide_eq_true aK
             obtain ⟨ad258, e258, hx258_0⟩ := Kd.at_int HR1.out x8_1 p258 q258
             cases e258
             replace p258 := eq_true p258
             replace q258 := eq_true q258
             have p259 : 0 ≤ (x8_1 : Int) := of_decide_eq_true aK
             have q259 : x8_1 < (l1.length : Int) := of_decide_eq_true aK
             obtain ⟨ad259, e259, hx259_0⟩ := Kd.at_int HR1.out x8_1 p259 q259
             obtain rfl : ad258 = ad259 := (by injection e259)
             replace p259 := eq_true p259
             replace q259 := eq_true q259
             have p260 : 0 ≤ ((rd l1 x8_1) : Int) := of_decide_eq_true aK
             have q260 : (rd l1 x8_1) < (l0.length : Int) := of_decide_eq_true aK
             obtain ⟨ad260, e260, hx260_0, hx260_1, hx260_2, hx260_3⟩ := at_T59 HR0.out (rd l1 x8_1) p260 q260
             cases e260
             replace p260 := eq_true p260
             replace q260 := eq_true q260
             have p261 : 0 ≤ (x8_1 : Int) := of_decide_eq_true aK
             have q261 : x8_1 < (l1.length : Int) := of_decide_eq_true aK
             obtain ⟨ad261, e261, hx261_0⟩ := Kd.at_int HR1.out x8_1 p261 q261
             obtain rfl : ad258 = ad261 := (by injection e261)
             replace p261 := eq_true p261
             replace q261 := eq_true q261
             have p262 : 0 ≤ ((rd l1 x8_1) : Int) := of_decide_eq_true aK
             have q262 : (rd l1 x8_1) < (l0.length : Int) := of_decide_eq_true aK
             obtain ⟨ad262, e262, hx262_0, hx262_1, hx262_2, hx262_3⟩ := at_T59 HR0.out (rd l1 x8_1) p262 q262
             obtain rfl : ad260 = ad262 := (by injection e262)
             replace p262 := eq_true p262
             replace q262 := eq_true q262
             go_wp2
             go_roundg kj4
             case measure => have := HK1.out; have := HJ4.out; omega
             case rel => exact ⟨(wrap64 ((wrap64 (x7_1 - 1)) + ((rd_T59 l0 (rd l1 x8_1)).f2))), (wrap64 (x8_1 + 1)), sK, sK, H', ⟨by have := HK1.out; have := HJ4.out; omega⟩, by repeat (first | exact Drawn0.refl _ | apply Drawn0.step)⟩
           ·rw [if_neg c15] at H
            exact absurd H (by simp)
          ·rw [if_neg c14] at H
           exact absurd H (by simp)
         ·rw [if_neg c13] at H
          have c13b0 : decide (0 ≤ (rd l1 x8_1)) = false := decide_eq_false c13
          clear c13
          have H' := Aside0.mk H
          clear H
          have p258 : 0 ≤ (x8_1 : Int) := of_decide_eq_true aK
          have q258 : x8_1 < (l1.length : Int) := of_decide_eq_true aK
          obtain ⟨ad258, e258, hx258_0⟩ := Kd.at_int HR1.out x8_1 p258 q258
          cases e258
          replace p258 := eq_true p258
          replace q258 := eq_true q258
          go_wp2
          go_roundg kj4
          case measure => have := HK1.out; have := HJ4.out; omega
          case rel => exact ⟨(wrap64 (x7_1 - 1)), (wrap64 (x8_1 + 1)), sK, sK, H', ⟨by have := HK1.out; have := HJ4.out; omega⟩, by repeat (first | exact Drawn0.refl _ | apply Drawn0.step)⟩
        ·rw [if_neg c12] at H
         exact absurd H (by simp)
       ·rw [if_neg c11] at H
        exact absurd H (by simp)
   ·rw [if_neg c4] at H
    have c4b0 : decide (0 < x7_1) = false := decide_eq_false c4
    clear c4
    obtain rfl := Option.some.inj H
    go_wp2
    go_ret
    exact ⟨sK, by repeat (first | exact Drawn0.refl _ | apply Drawn0.step)⟩

/-! ### quaereref1_Terms: function 56 -/
def quaereref1_Terms.l0 : Nat → List (S59) → List Int → Int → Int → Option (Int)
 | 0, _, _, _, _ => none
 | k + 1, x0, x1, x5, x6 => if x6 < (x1.length : Int) then ((quaereref1_End.f k x0 x1 x6).bind fun t263 => (if t263 < 0 then (some (-1)) else (quaereref1_Terms.l0 k x0 x1 (wrap64 (x5 + 1)) t263))) else (some x5)
def quaereref1_Terms.f (k : Nat) (l0 : List (S59)) (l1 : List Int) : Option (Int) := if (l1.length : Int) > 48 then (some (-1)) else (quaereref1_Terms.l0 k l0 l1 0 0)
theorem quaereref1_Terms.mono_l : ∀ k, (∀ y0 y1 y2 y3, LeO (quaereref1_Terms.l0 k y0 y1 y2 y3) (quaereref1_Terms.l0 (k + 1) y0 y1 y2 y3))
 | 0 => fun _ _ _ _ r h => by simp [quaereref1_Terms.l0] at h
 | k + 1 => by
  have ih0 := quaereref1_Terms.mono_l k
  ·intro y0 y1 y2 y3
   unfold quaereref1_Terms.l0
   repeat' first
   | (with_reducible exact ih0 _ _ _ _)
   | (with_reducible exact quaereref1_End.mono _ _ _ _)
   | (with_reducible exact LeO.refl _)
   | (with_reducible exact LeO.none _)
   | (with_reducible refine LeO.ite ?_ ?_)
   | (with_reducible refine LeO.bind ?_ (fun _ => ?_))
   | exact ih0 _ _ _ _
   | exact quaereref1_End.mono _ _ _ _
   | exact LeO.none _
   | refine LeO.ite ?_ ?_
   | refine LeO.bind ?_ (fun _ => ?_)
theorem quaereref1_Terms.mono : ∀ a0 a1 k, LeO (quaereref1_Terms.f k a0 a1) (quaereref1_Terms.f (k + 1) a0 a1) := by
 intro a0 a1 k
 have ih0 := quaereref1_Terms.mono_l k
 unfold quaereref1_Terms.f
 repeat' first
   | (with_reducible exact ih0 _ _ _ _)
   | (with_reducible exact quaereref1_End.mono _ _ _ _)
   | (with_reducible exact LeO.refl _)
   | (with_reducible exact LeO.none _)
   | (with_reducible refine LeO.ite ?_ ?_)
   | (with_reducible refine LeO.bind ?_ (fun _ => ?_))
   | exact ih0 _ _ _ _
   | exact quaereref1_End.mono _ _ _ _
   | exact LeO.none _
   | refine LeO.ite ?_ ?_
   | refine LeO.bind ?_ (fun _ => ?_)
set_option maxHeartbeats 8000000 in
set_option maxRecDepth 100000 in
theorem quaereref1_Terms.calls (k : Nat) (A0 : Option Addr) (c0 : Nat) (l0 : List (S59)) (A1 : Option Addr) (c1 : Nat) (l1 : List Int) (r : Int) (w : World) (hr0 : Kd.C k59 w A0 l0.length l0) (hc0 : l0.length ≤ c0) (hr1 : Kd.C (Kd.int .i64) w A1 l1.length l1) (hc1 : l1.length ≤ c1) (h : quaereref1_Terms.f k l0 l1 = some r) :
  Calls Tryd.prog 56 #[.slice A0 l0.length c0, .slice A1 l1.length c1] w fun e w' => e = .returned (.int .i64 r) ∧ Drawn0 w w' := by
 have HR0 := Aside0.mk hr0
 have HC0 := Aside0.mk hc0
 clear hr0 hc0
 have HR1 := Aside0.mk hr1
 have HC1 := Aside0.mk hc1
 clear hr1 hc1
 have H : (if (l1.length : Int) > 48 then (some (-1)) else (quaereref1_Terms.l0 k l0 l1 0 0)) = some r := h
 clear h
 by_cases c3 : (l1.length : Int) > 48
 ·rw [if_pos c3] at H
  have c3b0 : decide (48 < (l1.length : Int)) = true := decide_eq_true c3
  have c3b1 : decide (48 < l1.length) = true := decide_eq_true (by omega)
  clear c3
  obtain rfl := Option.some.inj H
  go_enter Tryd.func56, Tryd.ntmps56
  go_wp2
  go_ret
  exact ⟨sK, by repeat (first | exact Drawn0.refl _ | apply Drawn0.step)⟩
 ·rw [if_neg c3] at H
  have c3b0 : decide (48 < (l1.length : Int)) = false := decide_eq_false c3
  have c3b1 : decide (48 < l1.length) = false := decide_eq_false (by omega)
  clear c3
  have H' := Aside0.mk H
  clear H
  go_enter Tryd.func56, Tryd.ntmps56
  go_wp2
  go_loopg [5, 6] k (fun kq v5 v6 w' => ∃ (x5_1 : Int) (x6_1 : Int), v5 = .int .i64 x5_1 ∧ v6 = .int .i64 x6_1 ∧ Aside0 (quaereref1_Terms.l0 kq l0 l1 x5_1 x6_1 = some r) ∧ Aside0 (kq ≤ k) ∧ Drawn0 w w')
  case atStart => exact ⟨(0), (0), sK, sK, H', ⟨Nat.le_refl _⟩, by repeat (first | exact Drawn0.refl _ | apply Drawn0.step)⟩
  case round =>
   clear H'
   try clear c1
   try clear p2
   try clear c3
   try clear c3b0
   try clear c3b1
   obtain ⟨x5_1, x6_1, rfl, rfl, HA, HK1, ⟨m1, rfl⟩⟩ := hrel
   cases gk with
   | zero => exact absurd HA.out (by simp [quaereref1_Terms.l0])
   | succ k1 =>
    have H := HA.out
    clear HA
    simp only [quaereref1_Terms.l0] at H
    by_cases c4 : x6_1 < (l1.length : Int)
    ·rw [if_pos c4] at H
     have c4b0 : decide (x6_1 < (l1.length : Int)) = true := decide_eq_true c4
     clear c4
     replace H := Option.bind_eq_some_iff.mp H
     obtain ⟨t263, A50, H⟩ := H
     replace H : (if t263 < 0 then (some (-1)) else (quaereref1_Terms.l0 k1 l0 l1 (wrap64 (x5_1 + 1)) t263)) = some r := H
     have A5 := Aside0.mk A50
     clear A50
     by_cases c6 : t263 < 0
     ·rw [if_pos c6] at H
      have c6b0 : decide (t263 < 0) = true := decide_eq_true c6
      clear c6
      obtain rfl := Option.some.inj H
      go_wp2_with (first | ((with_reducible refine gate_callee (f := 66) rfl ?_); refine goesL_ (some 17) rfl rfl Tryd.func66 (by kernel_rfl) rfl #[.slice A0 l0.length c0, .slice A1 l1.length c1, .int .i64 x6_1] rfl mA ?_; (with_reducible refine (quaereref1_End.calls k1 _ _ l0 _ _ l1 x6_1 t263 _ ?side1 ?side2 ?side3 ?side4 A5.out).mono ?_); (case side1 => exact cK (HR0.out)); (case side2 => exact HC0.out); (case side3 => exact cK (HR1.out)); (case side4 => exact HC1.out); rintro e w' ⟨rfl, ⟨nd, rfl⟩⟩; refine ⟨_, rfl, ?_⟩))
      go_ret
      exact ⟨sK, by repeat (first | exact Drawn0.refl _ | apply Drawn0.step)⟩
     ·rw [if_neg c6] at H
      have c6b0 : decide (t263 < 0) = false := decide_eq_false c6
      clear c6
      have H' := Aside0.mk H
      clear H
      go_wp2_with (first | ((with_reducible refine gate_callee (f := 66) rfl ?_); refine goesL_ (some 17) rfl rfl Tryd.func66 (by kernel_rfl) rfl #[.slice A0 l0.length c0, .slice A1 l1.length c1, .int .i64 x6_1] rfl mA ?_; (with_reducible refine (quaereref1_End.calls k1 _ _ l0 _ _ l1 x6_1 t263 _ ?side1 ?side2 ?side3 ?side4 A5.out).mono ?_); (case side1 => exact cK (HR0.out)); (case side2 => exact HC0.out); (case side3 => exact cK (HR1.out)); (case side4 => exact HC1.out); rintro e w' ⟨rfl, ⟨nd, rfl⟩⟩; refine ⟨_, rfl, ?_⟩))
      go_roundg k1
      case measure => have := HK1.out; omega
      case rel => exact ⟨(wrap64 (x5_1 + 1)), (t263), sK, sK, H', ⟨by have := HK1.out; omega⟩, by repeat (first | exact Drawn0.refl _ | apply Drawn0.step)⟩
    ·rw [if_neg c4] at H
     have c4b0 : decide (x6_1 < (l1.length : Int)) = false := decide_eq_false c4
     clear c4
     obtain rfl := Option.some.inj H
     go_wp2
     go_ret
     exact ⟨sK, by repeat (first | exact Drawn0.refl _ | apply Drawn0.step)⟩

/-! ### quaereref1_IsTerm: function 42 -/
def quaereref1_IsTerm.f (k : Nat) (l0 : List (S59)) (l1 : List Int) : Option (Bool) := (quaereref1_Terms.f k l0 l1).bind fun t264 => (some (t264 == 1))
theorem quaereref1_IsTerm.mono : ∀ a0 a1 k, LeO (quaereref1_IsTerm.f k a0 a1) (quaereref1_IsTerm.f (k + 1) a0 a1) := by
 intro a0 a1 k
 unfold quaereref1_IsTerm.f
 repeat' first
   | (with_reducible exact quaereref1_Terms.mono _ _ _)
   | (with_reducible exact LeO.refl _)
   | (with_reducible exact LeO.none _)
   | (with_reducible refine LeO.ite ?_ ?_)
   | (with_reducible refine LeO.bind ?_ (fun _ => ?_))
   | exact quaereref1_Terms.mono _ _ _
   | exact LeO.none _
   | refine LeO.ite ?_ ?_
   | refine LeO.bind ?_ (fun _ => ?_)
set_option maxHeartbeats 8000000 in
set_option maxRecDepth 100000 in
theorem quaereref1_IsTerm.calls (k : Nat) (A0 : Option Addr) (c0 : Nat) (l0 : List (S59)) (A1 : Option Addr) (c1 : Nat) (l1 : List Int) (r : Bool) (w : World) (hr0 : Kd.C k59 w A0 l0.length l0) (hc0 : l0.length ≤ c0) (hr1 : Kd.C (Kd.int .i64) w A1 l1.length l1) (hc1 : l1.length ≤ c1) (h : quaereref1_IsTerm.f k l0 l1 = some r) :
  Calls Tryd.prog 42 #[.slice A0 l0.length c0, .slice A1 l1.length c1] w fun e w' => e = .returned (.bool r) ∧ Drawn0 w w' := by
 have HR0 := Aside0.mk hr0
 have HC0 := Aside0.mk hc0
 clear hr0 hc0
 have HR1 := Aside0.mk hr1
 have HC1 := Aside0.mk hc1
 clear hr1 hc1
 have H : ((quaereref1_Terms.f k l0 l1).bind fun t264 => (some (t264 == 1))) = some r := h
 clear h
 replace H := Option.bind_eq_some_iff.mp H
 obtain ⟨t264, A30, H⟩ := H
 replace H : (some (t264 == 1)) = some r := H
 have A3 := Aside0.mk A30
 clear A30
 obtain rfl := Option.some.inj H
 go_enter Tryd.func42, Tryd.ntmps42
 go_wp2_with (first | ((with_reducible refine gate_callee (f := 56) rfl ?_); refine goesL_ (some 7) rfl rfl Tryd.func56 (by kernel_rfl) rfl #[.slice A0 l0.length c0, .slice A1 l1.length c1] rfl mA ?_; (with_reducible refine (quaereref1_Terms.calls k _ _ l0 _ _ l1 t264 _ ?side1 ?side2 ?side3 ?side4 A3.out).mono ?_); (case side1 => exact cK (HR0.out)); (case side2 => exact HC0.out); (case side3 => exact cK (HR1.out)); (case side4 => exact HC1.out); rintro e w' ⟨rfl, ⟨nd, rfl⟩⟩; refine ⟨_, rfl, ?_⟩))
 go_ret
 exact ⟨sK, by repeat (first | exact Drawn0.refl _ | apply Drawn0.step)⟩

end Go.Proofs.YteffiodbflmfkaaDoor.PP
