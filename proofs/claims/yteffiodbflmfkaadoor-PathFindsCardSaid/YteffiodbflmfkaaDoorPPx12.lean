-- written by a program of this session's (wip/tools/pp.py), after the kit's print
import Derived.Test.YteffiodbflmfkaaDoorPPx0
import Derived.Test.YteffiodbflmfkaaDoorPPx11
namespace Go.Proofs.YteffiodbflmfkaaDoor.PP
open Go.RowKit Go.Proofs.YteffiodbflmfkaaDoorW.PrintWords Go.Proofs.YteffiodbflmfkaaDoorW.PrintLast Go.Proofs.YteffiodbflmfkaaDoorW.PrintMore
attribute [local go_sem] jump_ret jumpE_ret max2_int min2_int max_two min_two max_three min_three max_four min_four   -- for this text's walks alone
set_option linter.unusedVariables false
set_option linter.unusedSimpArgs false

/-! ### quaereref1_IsAtom: function 43 -/
def quaereref1_IsAtom.f (k : Nat) (l0 : List (S59)) (l1 : List Int) : Option (Bool) := if (l1.length : Int) > 0 then (if 0 < (l1.length : Int) then (if (rd l1 0) ≥ 0 then (if (rd l1 0) < (l0.length : Int) then (if 0 ≤ (rd l1 0) then (if ((rd_T59 l0 (rd l1 0)).f1) = 0 then (if 1 ≤ (l1.length : Int) then ((quaereref1_Terms.f k l0 (l1.drop 1)).bind fun t214 => (some (t214 == ((rd_T59 l0 (rd l1 0)).f2)))) else (none)) else (some false)) else (none)) else (some false)) else (some false)) else (none)) else (some false)
theorem quaereref1_IsAtom.mono : ∀ a0 a1 k, LeO (quaereref1_IsAtom.f k a0 a1) (quaereref1_IsAtom.f (k + 1) a0 a1) := by
 intro a0 a1 k
 unfold quaereref1_IsAtom.f
 repeat' first
   | (with_reducible exact quaereref1_Terms.mono _ _ _)
   | (with_reducible exact LeO.refl _)
   | (with_reducible exact LeO.none _)
   | (with_reducible refine LeO.ite ?_ ?_)
   | (with_reducible refine LeO.bind ?_ (fun _ => ?_))
set_option maxHeartbeats 8000000 in
set_option maxRecDepth 100000 in
theorem quaereref1_IsAtom.calls (k : Nat) (A0 : Option Addr) (c0 : Nat) (l0 : List (S59)) (A1 : Option Addr) (c1 : Nat) (l1 : List Int) (r : Bool) (w : World) (hr0 : Kd.C k59 w A0 l0.length l0) (hc0 : l0.length ≤ c0) (hr1 : Kd.C (Kd.int .i64) w A1 l1.length l1) (hc1 : l1.length ≤ c1) (h : quaereref1_IsAtom.f k l0 l1 = some r) :
  Calls Tryd.prog 43 #[.slice A0 l0.length c0, .slice A1 l1.length c1] w fun e w' => e = .returned (.bool r) ∧ Below w.heap.size w w' := by
 have HR0 := Aside0.mk hr0
 have HR1 := Aside0.mk hr1
 have HB := Aside0.mk (Below.refl w.heap.size w)
 unfold quaereref1_IsAtom.f at h
 by_cases h0 : l1.length = 0
 ·rw [if_neg (by omega)] at h
  obtain rfl := Option.some.inj h
  have hl : l1 = [] := List.length_eq_zero_iff.1 h0
  subst hl
  clear h hr0 hr1 h0
  go_enter Tryd.func43, Tryd.ntmps43
  go_wp2
  go_quiet (fail)
  go_wp2
  go_ret
  exact ⟨rfl, bB⟩
 ·rw [if_pos (by omega), if_pos (by omega)] at h
  obtain ⟨ad, rfl, hx⟩ := Kd.at_int hr1 0 (by omega) (by omega)
  rw [show ((0 : Int)).toNat = 0 from rfl, Addr.add_zero'] at hx
  obtain ⟨p, hp⟩ : ∃ p, p = rd l1 0 := ⟨_, rfl⟩
  rw [← hp] at hx h
  have g0 : decide ((0 : Int) < (l1.length : Int)) = true := by simp; omega
  have g1 : decide (0 < l1.length) = true := by simp; omega
  have g2 : (0 : Int) < (l1.length : Int) := by omega
  have g3 : 0 < l1.length := by omega
  have gl : 1 ≤ l1.length := by omega
  clear hp hr1 h0
  by_cases h1 : p ≥ 0
  ·rw [if_pos h1] at h
   have d1 : decide ((0 : Int) ≤ p) = true := decide_eq_true h1
   by_cases h2 : p < (l0.length : Int)
   ·rw [if_pos h2, if_pos h1] at h
    have d2 : decide (p < (l0.length : Int)) = true := decide_eq_true h2
    obtain ⟨bd, rfl, _, hy1, hy2, _⟩ := at_T59 hr0 p h1 h2
    obtain ⟨y, hy⟩ : ∃ y, y = rd_T59 l0 p := ⟨_, rfl⟩
    rw [← hy] at hy1 hy2 h
    obtain ⟨q, rfl⟩ := Int.eq_ofNat_of_zero_le h1
    rw [Int.toNat_natCast] at hy1 hy2
    have q0 : (0 : Int) ≤ (q : Int) := h1
    have q1 : (q : Int) < (l0.length : Int) := h2
    have q2 : q < l0.length := by omega
    have d2n : decide (q < l0.length) = true := decide_eq_true q2
    clear hr0 hy
    by_cases h3 : y.f1 = 0
    ·rw [if_pos h3, if_pos (by omega)] at h
     rw [h3] at hy1
     obtain ⟨t, ht, h⟩ := Option.bind_eq_some_iff.1 h
     obtain rfl := Option.some.inj h
     have HT := Aside0.mk ht
     obtain ⟨i0, hi0, _, hsz, _⟩ := info_parts info3
     obtain ⟨XT, hcut, hXT, hXTl⟩ := print_drop_of (P := Tryd.prog) (Value.int .i64) 0 23 3 .i64 Tryd.underlying23 hi0 hsz (some ad) c1 l1 1 (by omega) (by omega) hc1
     have HXT := Aside0.mk (Kd.C_of_reads (h1 := fun _ => rfl) (hXT _ (Kd.reads_of_C HR1.out)))
     rw [show ((1 : Int)).toNat = 1 from rfl] at HXT hcut hXTl
     obtain ⟨xt, hxt⟩ : ∃ t, t = l1.drop 1 := ⟨_, rfl⟩
     rw [← hxt] at HXT hcut hXTl HT
     have HXTL := Aside0.mk hXTl
     obtain ⟨a2, ha2⟩ : ∃ z, z = y.f2 := ⟨_, rfl⟩
     rw [← ha2] at hy2 ⊢
     clear hXT hXTl hxt hi0 hsz h ht h3 ha2 h1 h2
     go_enter Tryd.func43, Tryd.ntmps43
     go_wp2
     go_quiet ((go_at_call 56; (with_reducible refine (quaereref1_Terms.calls k _ _ l0 _ _ xt t _ ?s1 hc0 ?s2 HXTL.out HT.out).mono ?_); (case s1 => repeat (first | exact HR0.out | (with_reducible refine Kd.C_drewN ?_ _) | (with_reducible refine Kd.C_drew ?_))); (case s2 => repeat (first | exact HXT.out | (with_reducible refine Kd.C_drewN ?_ _) | (with_reducible refine Kd.C_drew ?_))); rintro e w' ⟨rfl, ⟨nd, rfl⟩⟩; first | exact ⟨rfl, _, World.drewN_drewN _ _ _⟩ | exact ⟨rfl, _, rfl⟩ | exact ⟨rfl, _, Eq.trans (World.drewN_drewN _ _ _) (congrArg (World.drewN _) (Nat.add_assoc _ _ _))⟩))
     go_wp2
     go_ret
     exact ⟨rfl, bB⟩
    ·rw [if_neg h3] at h
     obtain rfl := Option.some.inj h
     have d3 : (y.f1 == 0) = false := by simpa using h3
     clear h h3 h1 h2
     go_enter Tryd.func43, Tryd.ntmps43
     go_wp2
     go_quiet (fail)
     go_wp2
     go_ret
     exact ⟨rfl, bB⟩
   ·rw [if_neg h2] at h
    have d2 : decide (p < (l0.length : Int)) = false := decide_eq_false h2
    obtain rfl := Option.some.inj h
    clear h h1 h2 hr0
    go_enter Tryd.func43, Tryd.ntmps43
    go_wp2
    go_quiet (fail)
    go_wp2
    go_ret
    exact ⟨rfl, bB⟩
  ·rw [if_neg h1] at h
   have d1 : decide ((0 : Int) ≤ p) = false := decide_eq_false h1
   obtain rfl := Option.some.inj h
   clear h h1 hr0
   go_enter Tryd.func43, Tryd.ntmps43
   go_wp2
   go_quiet (fail)
   go_wp2
   go_ret
   exact ⟨rfl, bB⟩

/-! ### quaereref11_IsText: function 27 -/
def quaereref11_IsText.f (k : Nat) (l0 : List (S59)) (l1 : List Int) : Option (Bool) := (quaereref1_IsTerm.f k l0 l1).bind fun t265 => (if t265 = true then (some true) else ((quaereref1_IsAtom.f k l0 l1).bind fun t266 => (some t266)))
theorem quaereref11_IsText.mono : ∀ a0 a1 k, LeO (quaereref11_IsText.f k a0 a1) (quaereref11_IsText.f (k + 1) a0 a1) := by
 intro a0 a1 k
 unfold quaereref11_IsText.f
 repeat' first
   | (with_reducible exact quaereref1_IsAtom.mono _ _ _)
   | (with_reducible exact quaereref1_IsTerm.mono _ _ _)
   | (with_reducible exact LeO.refl _)
   | (with_reducible exact LeO.none _)
   | (with_reducible refine LeO.ite ?_ ?_)
   | (with_reducible refine LeO.bind ?_ (fun _ => ?_))
   | exact quaereref1_IsAtom.mono _ _ _
   | exact quaereref1_IsTerm.mono _ _ _
   | exact LeO.none _
   | refine LeO.ite ?_ ?_
   | refine LeO.bind ?_ (fun _ => ?_)
set_option maxHeartbeats 8000000 in
set_option maxRecDepth 100000 in
theorem quaereref11_IsText.calls (k : Nat) (A0 : Option Addr) (c0 : Nat) (l0 : List (S59)) (A1 : Option Addr) (c1 : Nat) (l1 : List Int) (r : Bool) (w : World) (hr0 : Kd.C k59 w A0 l0.length l0) (hc0 : l0.length ≤ c0) (hr1 : Kd.C (Kd.int .i64) w A1 l1.length l1) (hc1 : l1.length ≤ c1) (h : quaereref11_IsText.f k l0 l1 = some r) :
  Calls Tryd.prog 27 #[.slice A0 l0.length c0, .slice A1 l1.length c1] w fun e w' => e = .returned (.bool r) ∧ Below w.heap.size w w' := by
 have HR0 := Aside0.mk hr0
 have HC0 := Aside0.mk hc0
 clear hr0 hc0
 have HR1 := Aside0.mk hr1
 have HC1 := Aside0.mk hc1
 clear hr1 hc1
 have HB := Aside0.mk (Below.refl w.heap.size w)
 have H : ((quaereref1_IsTerm.f k l0 l1).bind fun t265 => (if t265 = true then (some true) else ((quaereref1_IsAtom.f k l0 l1).bind fun t266 => (some t266)))) = some r := h
 clear h
 replace H := Option.bind_eq_some_iff.mp H
 obtain ⟨t265, A30, H⟩ := H
 replace H : (if t265 = true then (some true) else ((quaereref1_IsAtom.f k l0 l1).bind fun t266 => (some t266))) = some r := H
 have A3 := Aside0.mk A30
 clear A30
 by_cases c4 : t265 = true
 ·subst c4
  have H1 : (some true) = some r := by rw [if_pos rfl] at H; exact H
  clear H
  have H := H1
  clear H1
  obtain rfl := Option.some.inj H
  go_enter Tryd.func27, Tryd.ntmps27
  go_wp2_with (first | ((with_reducible refine gate_callee (f := 42) rfl ?_); refine goesL_ (some 7) rfl rfl Tryd.func42 (by kernel_rfl) rfl #[.slice A0 l0.length c0, .slice A1 l1.length c1] rfl mA ?_; (with_reducible refine (quaereref1_IsTerm.calls k _ _ l0 _ _ l1 true _ ?side1 ?side2 ?side3 ?side4 A3.out).mono ?_); (case side1 => exact cK (HR0.out)); (case side2 => exact HC0.out); (case side3 => exact cK (HR1.out)); (case side4 => exact HC1.out); rintro e w' ⟨rfl, ⟨nd, rfl⟩⟩; refine ⟨_, rfl, ?_⟩))
  go_ret
  exact ⟨eK, bB⟩
 ·replace c4 := Bool.eq_false_iff.mpr c4
  subst c4
  have H1 : ((quaereref1_IsAtom.f k l0 l1).bind fun t266 => (some t266)) = some r := by rw [if_neg (show ¬ (false = true) by decide)] at H; exact H
  clear H
  have H := H1
  clear H1
  replace H := Option.bind_eq_some_iff.mp H
  obtain ⟨t266, A50, H⟩ := H
  replace H : (some t266) = some r := H
  have A5 := Aside0.mk A50
  clear A50
  obtain rfl := Option.some.inj H
  go_enter Tryd.func27, Tryd.ntmps27
  go_wp2_with (first | ((with_reducible refine gate_callee (f := 42) rfl ?_); refine goesL_ (some 7) rfl rfl Tryd.func42 (by kernel_rfl) rfl #[.slice A0 l0.length c0, .slice A1 l1.length c1] rfl mA ?_; (with_reducible refine (quaereref1_IsTerm.calls k _ _ l0 _ _ l1 false _ ?side1 ?side2 ?side3 ?side4 A3.out).mono ?_); (case side1 => exact cK (HR0.out)); (case side2 => exact HC0.out); (case side3 => exact cK (HR1.out)); (case side4 => exact HC1.out); rintro e w' ⟨rfl, ⟨nd, rfl⟩⟩; refine ⟨_, rfl, ?_⟩) | (go_at_call 43; (with_reducible refine (quaereref1_IsAtom.calls k _ _ l0 _ _ l1 t266 _ ?side1 ?side2 ?side3 ?side4 A5.out).mono ?_); (case side1 => exact cK (HR0.out)); (case side2 => exact HC0.out); (case side3 => exact cK (HR1.out)); (case side4 => exact HC1.out); rintro e w6 ⟨rfl, hb⟩; have n0_ := Aside0.mk (below_step bB hb); clear HB; have HB := n0_; clear n0_; (try clear hb); (try clear hb2); (try clear hk); (try clear hi)))
  go_ret
  exact ⟨eK, bB⟩

/-! ### quaereref1_behind: function 57 -/
def quaereref1_behind.l0 : Nat → List (S59) → List Int → Int → Int → Option (Int)
 | 0, _, _, _, _ => none
 | k + 1, x0, x1, x7, x8 => if x7 > 0 then (if 0 ≤ x8 then (if x8 < (x1.length : Int) then (if (rd x1 x8) ≥ 0 then (if 0 ≤ (rd x1 x8) then (if (rd x1 x8) < (x0.length : Int) then (quaereref1_behind.l0 k x0 x1 (wrap64 ((wrap64 (x7 - 1)) + ((rd_T59 x0 (rd x1 x8)).f2))) (wrap64 (x8 + 1))) else (none)) else (none)) else (quaereref1_behind.l0 k x0 x1 (wrap64 (x7 - 1)) (wrap64 (x8 + 1)))) else (none)) else (none)) else (some x8)
def quaereref1_behind.f (k : Nat) (l0 : List (S59)) (l1 : List Int) (a2 : Int) : Option (Int) := quaereref1_behind.l0 k l0 l1 1 a2
theorem quaereref1_behind.mono_l : ∀ k, (∀ y0 y1 y2 y3, LeO (quaereref1_behind.l0 k y0 y1 y2 y3) (quaereref1_behind.l0 (k + 1) y0 y1 y2 y3))
 | 0 => fun _ _ _ _ r h => by simp [quaereref1_behind.l0] at h
 | k + 1 => by
  have ih0 := quaereref1_behind.mono_l k
  ·intro y0 y1 y2 y3
   unfold quaereref1_behind.l0
   repeat' first
   | (with_reducible exact ih0 _ _ _ _)
   | (with_reducible exact LeO.refl _)
   | (with_reducible exact LeO.none _)
   | (with_reducible refine LeO.ite ?_ ?_)
   | (with_reducible refine LeO.bind ?_ (fun _ => ?_))
   | exact ih0 _ _ _ _
   | exact LeO.none _
   | refine LeO.ite ?_ ?_
   | refine LeO.bind ?_ (fun _ => ?_)
theorem quaereref1_behind.mono : ∀ a0 a1 a2 k, LeO (quaereref1_behind.f k a0 a1 a2) (quaereref1_behind.f (k + 1) a0 a1 a2) := by
 intro a0 a1 a2 k
 have ih0 := quaereref1_behind.mono_l k
 unfold quaereref1_behind.f
 repeat' first
   | (with_reducible exact ih0 _ _ _ _)
   | (with_reducible exact LeO.refl _)
   | (with_reducible exact LeO.none _)
   | (with_reducible refine LeO.ite ?_ ?_)
   | (with_reducible refine LeO.bind ?_ (fun _ => ?_))
   | exact ih0 _ _ _ _
   | exact LeO.none _
   | refine LeO.ite ?_ ?_
   | refine LeO.bind ?_ (fun _ => ?_)
set_option maxHeartbeats 8000000 in
set_option maxRecDepth 100000 in
theorem quaereref1_behind.calls (k : Nat) (A0 : Option Addr) (c0 : Nat) (l0 : List (S59)) (A1 : Option Addr) (c1 : Nat) (l1 : List Int) (a2 : Int) (r : Int) (w : World) (hr0 : Kd.C k59 w A0 l0.length l0) (hc0 : l0.length ≤ c0) (hr1 : Kd.C (Kd.int .i64) w A1 l1.length l1) (hc1 : l1.length ≤ c1) (h : quaereref1_behind.f k l0 l1 a2 = some r) :
  Calls Tryd.prog 57 #[.slice A0 l0.length c0, .slice A1 l1.length c1, .int .i64 a2] w fun e w' => e = .returned (.int .i64 r) ∧ Drawn0 w w' := by
 have HR0 := Aside0.mk hr0
 have HC0 := Aside0.mk hc0
 clear hr0 hc0
 have HR1 := Aside0.mk hr1
 have HC1 := Aside0.mk hc1
 clear hr1 hc1
 have H : (quaereref1_behind.l0 k l0 l1 1 a2) = some r := h
 clear h
 have H' := Aside0.mk H
 clear H
 go_enter Tryd.func57, Tryd.ntmps57
 go_wp2
 go_loopg [7, 8] k (fun kq v7 v8 w' => ∃ (x7_1 : Int) (x8_1 : Int), v7 = .int .i64 x7_1 ∧ v8 = .int .i64 x8_1 ∧ Aside0 (quaereref1_behind.l0 kq l0 l1 x7_1 x8_1 = some r) ∧ Aside0 (kq ≤ k) ∧ Drawn0 w w')
 case atStart => exact ⟨(1), (a2), sK, sK, H', ⟨Nat.le_refl _⟩, by repeat (first | exact Drawn0.refl _ | apply Drawn0.step)⟩
 case round =>
  clear H'
  try clear c1
  try clear p2
  obtain ⟨x7_1, x8_1, rfl, rfl, HA, HK1, ⟨m1, rfl⟩⟩ := hrel
  cases gk with
  | zero => exact absurd HA.out (by simp [quaereref1_behind.l0])
  | succ k1 =>
   have H := HA.out
   clear HA
   simp only [quaereref1_behind.l0] at H
   by_cases c4 : x7_1 > 0
   ·rw [if_pos c4] at H
    have c4b0 : decide (0 < x7_1) = true := decide_eq_true c4
    clear c4
    by_cases c5 : 0 ≤ x8_1
    ·rw [if_pos c5] at H
     have c5b0 : decide (0 ≤ x8_1) = true := decide_eq_true c5
     clear c5
     by_cases c6 : x8_1 < (l1.length : Int)
     ·rw [if_pos c6] at H
      have c6b0 : decide (x8_1 < (l1.length : Int)) = true := decide_eq_true c6
      clear c6
      by_cases c7 : (rd l1 x8_1) ≥ 0
      ·rw [if_pos c7] at H
       have c7b0 : decide (0 ≤ (rd l1 x8_1)) = true := decide_eq_true c7
       clear c7
       by_cases c8 : 0 ≤ (rd l1 x8_1)
       ·rw [if_pos c8] at H
        have c8b0 : decide (0 ≤ (rd l1 x8_1)) = true := decide_eq_true c8
        clear c8
        by_cases c9 : (rd l1 x8_1) < (l0.length : Int)
        ·rw [if_pos c9] at H
         have c9b0 : decide ((rd l1 x8_1) < (l0.length : Int)) = true := decide_eq_true c9
         clear c9
         have H' := Aside0.mk H
         clear H
         have p267 : 0 ≤ (x8_1 : Int) := of_decide_eq_true aK
         have q267 : x8_1 < (l1.length : Int) := of_decide_eq_true aK
         obtain ⟨ad267, e267, hx267_0⟩ := Kd.at_int HR1.out x8_1 p267 q267
         cases e267
         replace p267 := eq_true p267
         replace q267 := eq_true q267
         have p268 : 0 ≤ (x8_1 : Int) := of_decide_eq_true aK
         have q268 : x8_1 < (l1.length : Int) := of_decide_eq_true aK
         obtain ⟨ad268, e268, hx268_0⟩ := Kd.at_int HR1.out x8_1 p268 q268
         obtain rfl : ad267 = ad268 := (by injection e268)
         replace p268 := eq_true p268
         replace q268 := eq_true q268
         have p269 : 0 ≤ ((rd l1 x8_1) : Int) := of_decide_eq_true aK
         have q269 : (rd l1 x8_1) < (l0.length : Int) := of_decide_eq_true aK
         obtain ⟨ad269, e269, hx269_0, hx269_1, hx269_2, hx269_3⟩ := at_T59 HR0.out (rd l1 x8_1) p269 q269
         cases e269
         replace p269 := eq_true p269
         replace q269 := eq_true q269
         go_wp2
         go_roundg k1
         case measure => have := HK1.out; omega
         case rel => exact ⟨(wrap64 ((wrap64 (x7_1 - 1)) + ((rd_T59 l0 (rd l1 x8_1)).f2))), (wrap64 (x8_1 + 1)), sK, sK, H', ⟨by have := HK1.out; omega⟩, by repeat (first | exact Drawn0.refl _ | apply Drawn0.step)⟩
        ·rw [if_neg c9] at H
         exact absurd H (by simp)
       ·rw [if_neg c8] at H
        exact absurd H (by simp)
      ·rw [if_neg c7] at H
       have c7b0 : decide (0 ≤ (rd l1 x8_1)) = false := decide_eq_false c7
       clear c7
       have H' := Aside0.mk H
       clear H
       have p267 : 0 ≤ (x8_1 : Int) := of_decide_eq_true aK
       have q267 : x8_1 < (l1.length : Int) := of_decide_eq_true aK
       obtain ⟨ad267, e267, hx267_0⟩ := Kd.at_int HR1.out x8_1 p267 q267
       cases e267
       replace p267 := eq_true p267
       replace q267 := eq_true q267
       go_wp2
       go_roundg k1
       case measure => have := HK1.out; omega
       case rel => exact ⟨(wrap64 (x7_1 - 1)), (wrap64 (x8_1 + 1)), sK, sK, H', ⟨by have := HK1.out; omega⟩, by repeat (first | exact Drawn0.refl _ | apply Drawn0.step)⟩
     ·rw [if_neg c6] at H
      exact absurd H (by simp)
    ·rw [if_neg c5] at H
     exact absurd H (by simp)
   ·rw [if_neg c4] at H
    have c4b0 : decide (0 < x7_1) = false := decide_eq_false c4
    clear c4
    obtain rfl := Option.some.inj H
    go_wp2
    go_ret
    exact ⟨sK, by repeat (first | exact Drawn0.refl _ | apply Drawn0.step)⟩

/-! ### quaereref1_Parts: function 44 -/
def quaereref1_Parts.l0 : Nat → List (S59) → List Int → List (List Int) → Int → Option ((List (List Int)))
 | 0, _, _, _, _ => none
 | k + 1, x0, x1, x5, x6 => if x6 < (x1.length : Int) then ((quaereref1_behind.f k x0 x1 x6).bind fun t270 => (if 0 ≤ x6 then (if x6 ≤ t270 then (if t270 ≤ (x1.length : Int) then (if x5.length < 5864062014805 then (quaereref1_Parts.l0 k x0 x1 (x5 ++ [((x1.take (t270 : Int).toNat).drop (x6 : Int).toNat)]) t270) else (none)) else (none)) else (none)) else (none))) else (some x5)
def quaereref1_Parts.f (k : Nat) (l0 : List (S59)) (l1 : List Int) : Option ((List (List Int))) := quaereref1_Parts.l0 k l0 l1 ([] : List (List Int)) 0
theorem quaereref1_Parts.mono_l : ∀ k, (∀ y0 y1 y2 y3, LeO (quaereref1_Parts.l0 k y0 y1 y2 y3) (quaereref1_Parts.l0 (k + 1) y0 y1 y2 y3))
 | 0 => fun _ _ _ _ r h => by simp [quaereref1_Parts.l0] at h
 | k + 1 => by
  have ih0 := quaereref1_Parts.mono_l k
  ·intro y0 y1 y2 y3
   unfold quaereref1_Parts.l0
   repeat' first
   | (with_reducible exact ih0 _ _ _ _)
   | (with_reducible exact quaereref1_behind.mono _ _ _ _)
   | (with_reducible exact LeO.refl _)
   | (with_reducible exact LeO.none _)
   | (with_reducible refine LeO.ite ?_ ?_)
   | (with_reducible refine LeO.bind ?_ (fun _ => ?_))
   | exact ih0 _ _ _ _
   | exact quaereref1_behind.mono _ _ _ _
   | exact LeO.none _
   | refine LeO.ite ?_ ?_
   | refine LeO.bind ?_ (fun _ => ?_)
theorem quaereref1_Parts.mono : ∀ a0 a1 k, LeO (quaereref1_Parts.f k a0 a1) (quaereref1_Parts.f (k + 1) a0 a1) := by
 intro a0 a1 k
 have ih0 := quaereref1_Parts.mono_l k
 unfold quaereref1_Parts.f
 repeat' first
   | (with_reducible exact ih0 _ _ _ _)
   | (with_reducible exact quaereref1_behind.mono _ _ _ _)
   | (with_reducible exact LeO.refl _)
   | (with_reducible exact LeO.none _)
   | (with_reducible refine LeO.ite ?_ ?_)
   | (with_reducible refine LeO.bind ?_ (fun _ => ?_))
   | exact ih0 _ _ _ _
   | exact quaereref1_behind.mono _ _ _ _
   | exact LeO.none _
   | refine LeO.ite ?_ ?_
   | refine LeO.bind ?_ (fun _ => ?_)
set_option maxHeartbeats 8000000 in
set_option maxRecDepth 100000 in
theorem quaereref1_Parts.calls (k : Nat) (A0 : Option Addr) (c0 : Nat) (l0 : List (S59)) (P1_ : Nat → Prop) (A1 : Option Addr) (c1 : Nat) (l1 : List Int) (r : List (List Int)) (w : World) (hr0 : Kd.C k59 w A0 l0.length l0) (hc0 : l0.length ≤ c0) (hs1 : Kd.V (Kd.int .i64) 3 w w.heap.size (fun k_ => P1_ k_) (.slice A1 l1.length c1) l1) (h : quaereref1_Parts.f k l0 l1 = some r) :
  Calls Tryd.prog 44 #[.slice A0 l0.length c0, .slice A1 l1.length c1] w fun e w' => ∃ v0_ : Value, e = .returned (v0_) ∧ Kd.N (Kd.slice 3 (Kd.int .i64)) 23 w' w.heap.size (fun k_ => (P1_ k_ ∨ w.heap.size ≤ k_)) v0_ r ∧ Below w.heap.size w w' := by
 have HR0 := Aside0.mk hr0
 have HC0 := Aside0.mk hc0
 clear hr0 hc0
 have HO1 := Aside0.mk (show Kd.V (Kd.int .i64) 3 w w.heap.size (fun k_ => (P1_ k_ ∨ w.heap.size ≤ k_)) (.slice A1 l1.length c1) l1 from Kd.V_mono hs1 (fun k_ hk => .inl hk))
 have HB := Aside0.mk (Below.refl w.heap.size w)
 have H : (quaereref1_Parts.l0 k l0 l1 ([] : List (List Int)) 0) = some r := h
 clear h
 have H' := Aside0.mk H
 clear H
 go_enter Tryd.func44, Tryd.ntmps44
 go_wp2
 go_loopg [5, 6] k (fun kq v5 v6 w' => ∃ (x5_1 : List (List Int)) (x6_1 : Int), v6 = .int .i64 x6_1 ∧ Aside0 (quaereref1_Parts.l0 kq l0 l1 x5_1 x6_1 = some r) ∧ Aside0 (kq ≤ k) ∧ Aside0 (Kd.V (Kd.int .i64) 3 w' w.heap.size (fun k_ => (P1_ k_ ∨ w.heap.size ≤ k_) ∧ some k_ ≠ (v5 : Value).ownBlock) (.slice A1 l1.length c1) l1) ∧ Aside0 (Kd.N (Kd.slice 3 (Kd.int .i64)) 23 w' w.heap.size (fun k_ => (P1_ k_ ∨ w.heap.size ≤ k_)) v5 x5_1) ∧ Aside0 (Below w.heap.size w w'))
 case atStart => exact ⟨(([] : List (List Int))), (0), sK, H', ⟨Nat.le_refl _⟩, ⟨by (with_reducible repeat (first | apply Kd.V_alloc | apply Kd.V_drewN | apply Kd.V_drew)); exact Kd.V_mono HO1.out (fun _ hk => ⟨hk, (by simp [Value.ownBlock])⟩)⟩, ⟨by first | exact Kd.S_nil _ _ _ _ _ | exact Kd.N_nil _ _ _ _ _ | exact Kd.V_nil _ _ _ _ _ | exact Kd.Q_nil _ _ _ _ _ | exact Kd.R_nil _ _ _ _ _⟩, ⟨bB⟩⟩
 case round =>
  clear H'
  try clear c1
  try clear p2
  obtain ⟨x5_1, x6_1, rfl, HA, HK1, HO_1, HO_5, HB⟩ := hrel
  cases gk with
  | zero => exact absurd HA.out (by simp [quaereref1_Parts.l0])
  | succ k1 =>
   have H := HA.out
   clear HA
   simp only [quaereref1_Parts.l0] at H
   by_cases c3 : x6_1 < (l1.length : Int)
   ·rw [if_pos c3] at H
    have c3b0 : decide (x6_1 < (l1.length : Int)) = true := decide_eq_true c3
    clear c3
    replace H := Option.bind_eq_some_iff.mp H
    obtain ⟨t270, A40, H⟩ := H
    replace H : (if 0 ≤ x6_1 then (if x6_1 ≤ t270 then (if t270 ≤ (l1.length : Int) then (if x5_1.length < 5864062014805 then (quaereref1_Parts.l0 k1 l0 l1 (x5_1 ++ [((l1.take (t270 : Int).toNat).drop (x6_1 : Int).toNat)]) t270) else (none)) else (none)) else (none)) else (none)) = some r := H
    have A4 := Aside0.mk A40
    clear A40
    by_cases c5 : 0 ≤ x6_1
    ·rw [if_pos c5] at H
     have c5b0 := eq_true c5
     have c5b1 : decide (0 ≤ x6_1) = true := decide_eq_true c5
     clear c5
     by_cases c6 : x6_1 ≤ t270
     ·rw [if_pos c6] at H
      have c6b0 := eq_true c6
      have c6b1 : decide (x6_1 ≤ t270) = true := decide_eq_true c6
      clear c6
      by_cases c7 : t270 ≤ (l1.length : Int)
      ·rw [if_pos c7] at H
       have c7b0 := eq_true c7
       have c7b1 : decide (t270 ≤ (l1.length : Int)) = true := decide_eq_true c7
       clear c7
       obtain ⟨y271, hy271⟩ : ∃ y_ : List Int, y_ = ((l1.take (t270 : Int).toNat).drop (x6_1 : Int).toNat) := ⟨_, rfl⟩
       replace H : (if x5_1.length < 5864062014805 then (quaereref1_Parts.l0 k1 l0 l1 (x5_1 ++ [y271]) t270) else (none)) = some r := by first | (rw [hy271]; with_reducible exact H) | (have H2_ := (Option.bind_some _ _).symm.trans H; rw [hy271]; with_reducible exact H2_) | (have H2_ := (Option.bind_some _ _).symm.trans H; with_reducible exact H2_) | with_reducible exact H | (rw [hy271]; exact H) | exact H
       have Ny271 := Aside0.mk hy271
       clear hy271
       by_cases c8 : x5_1.length < 5864062014805
       ·rw [if_pos c8] at H
        have LMc8 := Aside0.mk c8
        clear c8
        obtain ⟨y276, hy276⟩ : ∃ y_ : List (List Int), y_ = (x5_1 ++ [y271]) := ⟨_, rfl⟩
        replace H : (quaereref1_Parts.l0 k1 l0 l1 y276 t270) = some r := by first | (rw [hy276]; with_reducible exact H) | (have H2_ := (Option.bind_some _ _).symm.trans H; rw [hy276]; with_reducible exact H2_) | (have H2_ := (Option.bind_some _ _).symm.trans H; with_reducible exact H2_) | with_reducible exact H | (rw [hy276]; exact H) | exact H
        have Ny276 := Aside0.mk hy276
        clear hy276
        have H' := Aside0.mk H
        clear H
        go_wp2_with (first | ((with_reducible refine gate_callee (f := 57) rfl ?_); refine goesL_ (some 15) rfl rfl Tryd.func57 (by kernel_rfl) rfl #[.slice A0 l0.length c0, .slice A1 l1.length c1, .int .i64 x6_1] rfl mA ?_; (with_reducible refine (quaereref1_behind.calls k1 _ _ l0 _ _ l1 x6_1 t270 _ ?side1 ?side2 ?side3 ?side4 A4.out).mono ?_); (case side1 => exact cK (Kd.C_below HR0.out HB.out)); (case side2 => exact HC0.out); (case side3 => exact cK ((Kd.V_reads' HO_1.out).2.2)); (case side4 => exact (Kd.V_reads' HO_1.out).2.1); rintro e w' ⟨rfl, ⟨nd, rfl⟩⟩; refine ⟨_, rfl, ?_⟩; have q9 : (t270 : Int) ≤ ((l1.length : Int) : Int) := of_decide_eq_true aK; obtain ⟨i09, hi09, _, hsz9, _⟩ := info_parts info3; have hroom9 : l1.length ≤ c1 := (Kd.V_reads' HO_1.out).2.1; have hC9 : Kd.F (Kd.int .i64) _ _ A1 l1.length l1 := (Kd.V_at (base := w.heap.size) HO_1.out).2.2; have ql9 : (x6_1 : Int) ≤ (t270 : Int) := of_decide_eq_true aK; have q09 : (0 : Int) ≤ (x6_1 : Int) := of_decide_eq_true aK; have hcut9 := cut_mid (P := Tryd.prog) 23 3 .i64 .i64 Tryd.underlying23 hi09 1 hsz9 A1 l1.length c1 x6_1 t270 q09 ql9 q9 hroom9; have hr9 := Kd.F_mid (lo := (x6_1 : Int).toNat) (hi := (t270 : Int).toNat) (c := c1) hC9 (by omega) (by omega) hroom9; obtain ⟨A9, hA9⟩ : ∃ Az_, Az_ = (if c1 = (x6_1 : Int).toNat then A1 else (A1 : Option Addr).map (·.add ((x6_1 : Int).toNat * 1))) := ⟨_, rfl⟩; obtain ⟨c9, hc9⟩ : ∃ cz_, cz_ = c1 - (x6_1 : Int).toNat := ⟨_, rfl⟩; have hy9 : y271.length = (t270 : Int).toNat - (x6_1 : Int).toNat := (by rw [Ny271.out, List.length_drop, List.length_take] <;> omega); rw [show ((l1).take (t270 : Int).toNat).drop (x6_1 : Int).toNat = y271 from Ny271.out.symm] at hr9; replace hr9 : Kd.F (Kd.int .i64) _ _ A9 y271.length y271 := (by rw [hA9]; exact hr9); rw [← hy9, ← hA9, ← hc9] at hcut9; have HO275 := Aside0.mk (show Kd.V (Kd.int .i64) 3 _ w.heap.size _ (.slice A9 y271.length c9) y271 from Kd.V_mk (by rw [hy9, hc9]; exact Nat.sub_le_sub_right (Nat.le_trans (by omega) hroom9) _) hr9); have HC275 := Aside0.mk (show y271.length ≤ c9 from by rw [hy9, hc9]; exact Nat.sub_le_sub_right (Nat.le_trans (by omega) hroom9) _); clear hr9 hC9 hroom9 hi09 hsz9 hc9; have KY9 := Aside0.mk hy9; have KA9 := Aside0.mk hA9; clear hy9 hA9; replace q9 := eq_true q9) | ((with_reducible refine gate_builtin (b := .append) (xs := #[.tmp 16, .tmp 21]) rfl ?_); at_builtin; refine Kd.N_append (Kd.slice 3 (Kd.int .i64)) (w0 := w) w.heap.size rfl (.tmp 16) (.tmp 21) 25 23 (.slice none 0 0) 24 rfl Tryd.underlying25 info23 rfl (by decide) (by omega) u5 x5_1 y271 [.slice A9 y271.length c9] (fun k_ => (P1_ k_ ∨ w.heap.size ≤ k_)) (fun k_ => ((fun k_ => (P1_ k_ ∨ w.heap.size ≤ k_))) k_ ∧ some k_ ≠ (u5 : Value).ownBlock) rfl rfl ?aP (fun _ hk => hk) ?aF ?aO ?aB ?aS ?aL ?_; (case aP => first | (exact (Kd.FK_slice_mk (Kd.V_reads' (Kd.V_mono (ok' := (fun k_ => ((fun k_ => (P1_ k_ ∨ w.heap.size ≤ k_))) k_ ∧ some k_ ≠ (u5 : Value).ownBlock)) (HO275.out) (fun k_ hk => ⟨hk.1, hk.2⟩))).2.1 (Kd.V_F (Kd.V_mono (ok' := (fun k_ => ((fun k_ => (P1_ k_ ∨ w.heap.size ≤ k_))) k_ ∧ some k_ ≠ (u5 : Value).ownBlock)) (HO275.out) (fun k_ hk => ⟨hk.1, hk.2⟩))))) | (refine Kd.FK_slice_mk ?_ ?_; exact (Kd.V_reads' HO275.out).2.1; first | exact Kd.V_F (Kd.V_mono (Kd.V_drewN HO275.out _) (fun k_ hk => ⟨hk.1, hk.2⟩)) | exact Kd.V_F (Kd.V_mono (Kd.V_alloc HO275.out _) (fun k_ hk => ⟨hk.1, hk.2⟩)) | exact Kd.V_F (Kd.V_mono (Kd.V_drew HO275.out) (fun k_ hk => ⟨hk.1, hk.2⟩)))); (case aB => exact bB); (case aF => exact (fun k_ hk => (.inr (Nat.le_trans (below_size bB) hk)))); (case aO => exact (nK HO_5)); (case aS => exact (below_size bB)); (case aL => have := LMc8.out; omega); intro v277 w10 ho hb hg hat; rw [← Ny276.out] at ho; have n0_ := Aside0.mk (Kd.V_afterv (ok := (fun k_ => (P1_ k_ ∨ w.heap.size ≤ k_))) (by (with_reducible repeat (first | apply Kd.V_alloc | apply Kd.V_drewN | apply Kd.V_drew)); exact HO_1.out) hg hat); have n1_ := Aside0.mk (Kd.V_afterv (ok := (fun k_ => (P1_ k_ ∨ w.heap.size ≤ k_))) (by (with_reducible repeat (first | apply Kd.V_alloc | apply Kd.V_drewN | apply Kd.V_drew)); exact HO275.out) hg hat); have n2_ := Aside0.mk (hb); have n3_ := Aside0.mk (ho); clear HO_1; clear HO275; clear HB; clear HO_5; have HO_1 := n0_; have HO275 := n1_; have HB := n2_; have HO278 := n3_; clear n0_ n1_ n2_ n3_; clear ho hb hg hat))
        go_roundg k1
        case measure => have := HK1.out; omega
        case rel => exact ⟨(y276), (t270), sK, H', ⟨by have := HK1.out; omega⟩, ⟨by (with_reducible repeat (first | apply Kd.V_alloc | apply Kd.V_drewN | apply Kd.V_drew)); exact HO_1.out⟩, ⟨by (with_reducible repeat (first | apply Kd.N_alloc | apply Kd.N_drewN | apply Kd.N_drew)); exact HO278.out⟩, ⟨bB⟩⟩
       ·rw [if_neg c8] at H
        exact absurd H (by simp)
      ·rw [if_neg c7] at H
       exact absurd H (by simp)
     ·rw [if_neg c6] at H
      exact absurd H (by simp)
    ·rw [if_neg c5] at H
     exact absurd H (by simp)
   ·rw [if_neg c3] at H
    have c3b0 : decide (x6_1 < (l1.length : Int)) = false := decide_eq_false c3
    clear c3
    obtain rfl := Option.some.inj H
    go_wp2
    go_ret
    exact ⟨_, eK, by (with_reducible repeat (first | apply Kd.N_alloc | apply Kd.N_drewN | apply Kd.N_drew)); exact HO_5.out, bB⟩

end Go.Proofs.YteffiodbflmfkaaDoor.PP
