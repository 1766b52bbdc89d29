-- written by a program of this session's (wip/tools/pp.py), after the kit's print
import Derived.Test.YtfnemhkiopgeaaaDoorPKx0
import Derived.Test.YtfnemhkiopgeaaaDoorPKx2
import Derived.Test.YtfnemhkiopgeaaaDoorPKx4
import Derived.Test.YtfnemhkiopgeaaaDoorPKx5
import Derived.Test.YtfnemhkiopgeaaaDoorPKx8
import Derived.Test.YtfnemhkiopgeaaaDoorPKx11
import Derived.Test.YtfnemhkiopgeaaaDoorPKx13
import Derived.Test.YtfnemhkiopgeaaaDoorPKx15
namespace Go.Proofs.YtfnemhkiopgeaaaDoor.PK
open Go.RowKit Go.Proofs.YtfnemhkiopgeaaaDoorW.PrintWords Go.Proofs.YtfnemhkiopgeaaaDoorW.PrintLast Go.Proofs.YtfnemhkiopgeaaaDoorW.PrintMore
attribute [local go_sem] jump_ret max2_int min2_int max_two min_two max_three min_three max_four min_four   -- for this text's walks alone
set_option linter.unusedVariables false
set_option linter.unusedSimpArgs false

/-! ### quaerelaw7_Lits: function 3 -/
def quaerelaw7_Lits.f (k : Nat) (l0 : List (S58)) (a1_0 : Bool) (l1_1 : List Int) (a2_0 : Bool) (l2_1 : List Int) : Option (Bool) := (quaerelaw0_CopyLits.f k (([(⟨a1_0, l1_1⟩ : S25), (⟨a2_0, l2_1⟩ : S25)] : List (S25)))).bind fun t327 => ((lit_Weight.f k l0 a1_0 l1_1).bind fun bt330 => ((quaereref8_LitWeight.f k l0 a1_0 l1_1).bind fun bt332 => ((lit_Compare.f k l0 a1_0 l1_1 a2_0 l2_1).bind fun bt334 => ((quaereref8_LitCompare.f k l0 a1_0 l1_1 a2_0 l2_1).bind fun bt336 => ((lit_May.f k l0 a1_0 l1_1).bind fun t338 => ((quaereref8_LitMay.f k l0 a1_0 l1_1).bind fun t339 => (if (t338 == t339) = true then (if bt330.1 = bt332.1 then ((quaerelaw0_Num.f bt330.2).bind fun t340 => (if t340 = bt332.2 then (if bt334.1 = bt336.1 then ((quaerelaw0_Num.f bt334.2).bind fun t341 => (if t341 = bt336.2 then ((quaerelaw0_SameLits.f k t327 (([(⟨a1_0, l1_1⟩ : S25), (⟨a2_0, l2_1⟩ : S25)] : List (S25)))).bind fun t345 => (if t345 = true then ((quaerelaw7_awake.f k).bind fun t346 => (some t346)) else (none))) else (none))) else (none)) else (none))) else (none)) else (none))))))))
theorem quaerelaw7_Lits.mono : ∀ a0 a1 a2 a3 a4 k, LeO (quaerelaw7_Lits.f k a0 a1 a2 a3 a4) (quaerelaw7_Lits.f (k + 1) a0 a1 a2 a3 a4) := by
 intro a0 a1 a2 a3 a4 k
 unfold quaerelaw7_Lits.f
 repeat' first
   | (with_reducible exact lit_Compare.mono _ _ _ _ _ _)
   | (with_reducible exact lit_May.mono _ _ _ _)
   | (with_reducible exact lit_Weight.mono _ _ _ _)
   | (with_reducible exact quaerelaw0_CopyLits.mono _ _)
   | (with_reducible exact quaerelaw0_SameLits.mono _ _ _)
   | (with_reducible exact quaerelaw7_awake.mono _)
   | (with_reducible exact quaereref8_LitCompare.mono _ _ _ _ _ _)
   | (with_reducible exact quaereref8_LitMay.mono _ _ _ _)
   | (with_reducible exact quaereref8_LitWeight.mono _ _ _ _)
   | (with_reducible exact LeO.refl _)
   | (with_reducible exact LeO.none _)
   | (with_reducible refine LeO.ite ?_ ?_)
   | (with_reducible refine LeO.bind ?_ (fun _ => ?_))
   | exact lit_Compare.mono _ _ _ _ _ _
   | exact lit_May.mono _ _ _ _
   | exact lit_Weight.mono _ _ _ _
   | exact quaerelaw0_CopyLits.mono _ _
   | exact quaerelaw0_SameLits.mono _ _ _
   | exact quaerelaw7_awake.mono _
   | exact quaereref8_LitCompare.mono _ _ _ _ _ _
   | exact quaereref8_LitMay.mono _ _ _ _
   | exact quaereref8_LitWeight.mono _ _ _ _
   | exact LeO.none _
   | refine LeO.ite ?_ ?_
   | refine LeO.bind ?_ (fun _ => ?_)
def quaerelaw7_Lits.T6 : Bool × List (List Nat × List Nat) := (true, [([], []), ([], []), ([0, 1], [0, 1]), ([], []), ([], []), ([3, 4, 2], [3, 4]), ([2, 5], [2, 5]), ([6, 5], [6]), ([7], [7]), ([7], [7]), ([8, 9, 7], [7, 8, 9]), ([7, 10], [7, 10]), ([11, 7], [11]), ([12], [12]), ([13, 12, 12], [12, 13]), ([12], [12]), ([14, 15, 12], [12, 14, 15]), ([12, 16], [12, 16]), ([17, 14], [17]), ([18], [18]), ([18], [18]), ([19, 20, 18], [18, 19, 20]), ([18, 21], [18, 21]), ([22, 18], [22]), ([23], [23]), ([24, 23, 23], [23, 24]), ([23], [23]), ([25, 26, 23], [23, 25, 26]), ([23, 27], [23, 27]), ([28, 25], [28]), ([29], [29]), ([29], [29]), ([29], [29]), ([31, 32, 29], [29, 31, 32]), ([30, 33, 29, 29], [29, 30, 33]), ([29, 34], [29, 34]), ([35, 34], [35]), ([36, 36], [36]), ([36, 37], [36, 37]), ([38, 37, 0, 1, 2, 3, 4, 5, 6, 7, 8, 9, 10, 11, 12, 13, 14, 15, 16, 17, 18, 19, 20, 21, 22, 23, 24, 25, 26, 27, 28, 29, 30, 31, 32, 33, 34, 35, 36, 37, 38], [38])])
def quaerelaw7_Lits.B6 : List Nat := [0, 0, 3, 0, 0, 31, 63, 127, 255, 255, 1023, 2047, 4095, 8191, 16383, 8191, 65535, 131071, 262143, 524287, 524287, 2097151, 4194303, 8388607, 16777215, 33554431, 16777215, 134217727, 268435455, 536870911, 1073741823, 1073741823, 1073741823, 7516192767, 17179869183, 34359738367, 68719476735, 137438953471, 274877906943, 549755813887]
theorem quaerelaw7_Lits.tab6 : rtab .any (opsOf Tryd.f3 6) = quaerelaw7_Lits.T6 := by kernel_rfl
theorem quaerelaw7_Lits.bits6 : waitsOk quaerelaw7_Lits.T6.2 quaerelaw7_Lits.B6 = true := by kernel_rfl
set_option maxHeartbeats 8000000 in
set_option maxRecDepth 100000 in
theorem quaerelaw7_Lits.calls (k : Nat) (A0 : Option Addr) (c0 : Nat) (l0 : List (S58)) (a1_0 : Bool) (P1_1_ : Nat → Prop) (A1_1 : Option Addr) (c1_1 : Nat) (l1_1 : List Int) (a2_0 : Bool) (P2_1_ : Nat → Prop) (A2_1 : Option Addr) (c2_1 : Nat) (l2_1 : List Int) (r : Bool) (w : World) (hr0 : Kd.C k58 w A0 l0.length l0) (hc0 : l0.length ≤ c0) (hs1_1 : Kd.V (Kd.int .i64) 3 w w.heap.size (fun k_ => P1_1_ k_) (.slice A1_1 l1_1.length c1_1) l1_1) (hs2_1 : Kd.V (Kd.int .i64) 3 w w.heap.size (fun k_ => P2_1_ k_) (.slice A2_1 l2_1.length c2_1) l2_1) (h : quaerelaw7_Lits.f k l0 a1_0 l1_1 a2_0 l2_1 = some r) (hG : Glob w) :
  Calls Tryd.prog 3 #[.slice A0 l0.length c0, .agg #[.bool a1_0, .slice A1_1 l1_1.length c1_1], .agg #[.bool a2_0, .slice A2_1 l2_1.length c2_1]] w fun e w' => e = .returned (.bool r) ∧ Below w.heap.size w w' := by
 have hu25 := Tryd.underlying25
 have HR0 := Aside0.mk hr0
 have HC0 := Aside0.mk hc0
 clear hr0 hc0
 have HO1_1 := Aside0.mk (show Kd.V (Kd.int .i64) 3 w w.heap.size (fun k_ => ((P1_1_ k_ ∨ P2_1_ k_) ∨ w.heap.size ≤ k_)) (.slice A1_1 l1_1.length c1_1) l1_1 from Kd.V_mono hs1_1 (fun k_ hk => .inl (.inl hk)))
 have HO2_1 := Aside0.mk (show Kd.V (Kd.int .i64) 3 w w.heap.size (fun k_ => ((P1_1_ k_ ∨ P2_1_ k_) ∨ w.heap.size ≤ k_)) (.slice A2_1 l2_1.length c2_1) l2_1 from Kd.V_mono hs2_1 (fun k_ hk => .inl (.inr hk)))
 have HB := Aside0.mk (Below.refl w.heap.size w)
 have H : ((quaerelaw0_CopyLits.f k (([(⟨a1_0, l1_1⟩ : S25), (⟨a2_0, l2_1⟩ : S25)] : List (S25)))).bind fun t327 => ((lit_Weight.f k l0 a1_0 l1_1).bind fun bt330 => ((quaereref8_LitWeight.f k l0 a1_0 l1_1).bind fun bt332 => ((lit_Compare.f k l0 a1_0 l1_1 a2_0 l2_1).bind fun bt334 => ((quaereref8_LitCompare.f k l0 a1_0 l1_1 a2_0 l2_1).bind fun bt336 => ((lit_May.f k l0 a1_0 l1_1).bind fun t338 => ((quaereref8_LitMay.f k l0 a1_0 l1_1).bind fun t339 => (if (t338 == t339) = true then (if bt330.1 = bt332.1 then ((quaerelaw0_Num.f bt330.2).bind fun t340 => (if t340 = bt332.2 then (if bt334.1 = bt336.1 then ((quaerelaw0_Num.f bt334.2).bind fun t341 => (if t341 = bt336.2 then ((quaerelaw0_SameLits.f k t327 (([(⟨a1_0, l1_1⟩ : S25), (⟨a2_0, l2_1⟩ : S25)] : List (S25)))).bind fun t345 => (if t345 = true then ((quaerelaw7_awake.f k).bind fun t346 => (some t346)) else (none))) else (none))) else (none)) else (none))) else (none)) else (none))))))))) = some r := h
 clear h
 obtain ⟨y324, hy324⟩ : ∃ y_ : List (S25), y_ = (([(⟨a1_0, l1_1⟩ : S25), (⟨a2_0, l2_1⟩ : S25)] : List (S25))) := ⟨_, rfl⟩
 replace H : ((quaerelaw0_CopyLits.f k y324).bind fun t327 => ((lit_Weight.f k l0 a1_0 l1_1).bind fun bt330 => ((quaereref8_LitWeight.f k l0 a1_0 l1_1).bind fun bt332 => ((lit_Compare.f k l0 a1_0 l1_1 a2_0 l2_1).bind fun bt334 => ((quaereref8_LitCompare.f k l0 a1_0 l1_1 a2_0 l2_1).bind fun bt336 => ((lit_May.f k l0 a1_0 l1_1).bind fun t338 => ((quaereref8_LitMay.f k l0 a1_0 l1_1).bind fun t339 => (if (t338 == t339) = true then (if bt330.1 = bt332.1 then ((quaerelaw0_Num.f bt330.2).bind fun t340 => (if t340 = bt332.2 then (if bt334.1 = bt336.1 then ((quaerelaw0_Num.f bt334.2).bind fun t341 => (if t341 = bt336.2 then ((quaerelaw0_SameLits.f k t327 (([(⟨a1_0, l1_1⟩ : S25), (⟨a2_0, l2_1⟩ : S25)] : List (S25)))).bind fun t345 => (if t345 = true then ((quaerelaw7_awake.f k).bind fun t346 => (some t346)) else (none))) else (none))) else (none)) else (none))) else (none)) else (none))))))))) = some r := by first | (rw [hy324]; with_reducible exact H) | (have H2_ := (Option.bind_some _ _).symm.trans H; rw [hy324]; with_reducible exact H2_) | (have H2_ := (Option.bind_some _ _).symm.trans H; with_reducible exact H2_) | with_reducible exact H | (rw [hy324]; exact H) | exact H
 have Ny324 := Aside0.mk hy324
 clear hy324
 replace H := Option.bind_eq_some_iff.mp H
 obtain ⟨t327, A40, H⟩ := H
 replace H : ((lit_Weight.f k l0 a1_0 l1_1).bind fun bt330 => ((quaereref8_LitWeight.f k l0 a1_0 l1_1).bind fun bt332 => ((lit_Compare.f k l0 a1_0 l1_1 a2_0 l2_1).bind fun bt334 => ((quaereref8_LitCompare.f k l0 a1_0 l1_1 a2_0 l2_1).bind fun bt336 => ((lit_May.f k l0 a1_0 l1_1).bind fun t338 => ((quaereref8_LitMay.f k l0 a1_0 l1_1).bind fun t339 => (if (t338 == t339) = true then (if bt330.1 = bt332.1 then ((quaerelaw0_Num.f bt330.2).bind fun t340 => (if t340 = bt332.2 then (if bt334.1 = bt336.1 then ((quaerelaw0_Num.f bt334.2).bind fun t341 => (if t341 = bt336.2 then ((quaerelaw0_SameLits.f k t327 (([(⟨a1_0, l1_1⟩ : S25), (⟨a2_0, l2_1⟩ : S25)] : List (S25)))).bind fun t345 => (if t345 = true then ((quaerelaw7_awake.f k).bind fun t346 => (some t346)) else (none))) else (none))) else (none)) else (none))) else (none)) else (none)))))))) = some r := H
 have A4 := Aside0.mk A40
 clear A40
 replace H := Option.bind_eq_some_iff.mp H
 obtain ⟨⟨t330, t331⟩, A50, H⟩ := H
 replace H : ((quaereref8_LitWeight.f k l0 a1_0 l1_1).bind fun bt332 => ((lit_Compare.f k l0 a1_0 l1_1 a2_0 l2_1).bind fun bt334 => ((quaereref8_LitCompare.f k l0 a1_0 l1_1 a2_0 l2_1).bind fun bt336 => ((lit_May.f k l0 a1_0 l1_1).bind fun t338 => ((quaereref8_LitMay.f k l0 a1_0 l1_1).bind fun t339 => (if (t338 == t339) = true then (if t330 = bt332.1 then ((quaerelaw0_Num.f t331).bind fun t340 => (if t340 = bt332.2 then (if bt334.1 = bt336.1 then ((quaerelaw0_Num.f bt334.2).bind fun t341 => (if t341 = bt336.2 then ((quaerelaw0_SameLits.f k t327 (([(⟨a1_0, l1_1⟩ : S25), (⟨a2_0, l2_1⟩ : S25)] : List (S25)))).bind fun t345 => (if t345 = true then ((quaerelaw7_awake.f k).bind fun t346 => (some t346)) else (none))) else (none))) else (none)) else (none))) else (none)) else (none))))))) = some r := H
 have A5 := Aside0.mk A50
 clear A50
 replace H := Option.bind_eq_some_iff.mp H
 obtain ⟨⟨t332, t333⟩, A60, H⟩ := H
 replace H : ((lit_Compare.f k l0 a1_0 l1_1 a2_0 l2_1).bind fun bt334 => ((quaereref8_LitCompare.f k l0 a1_0 l1_1 a2_0 l2_1).bind fun bt336 => ((lit_May.f k l0 a1_0 l1_1).bind fun t338 => ((quaereref8_LitMay.f k l0 a1_0 l1_1).bind fun t339 => (if (t338 == t339) = true then (if t330 = t332 then ((quaerelaw0_Num.f t331).bind fun t340 => (if t340 = t333 then (if bt334.1 = bt336.1 then ((quaerelaw0_Num.f bt334.2).bind fun t341 => (if t341 = bt336.2 then ((quaerelaw0_SameLits.f k t327 (([(⟨a1_0, l1_1⟩ : S25), (⟨a2_0, l2_1⟩ : S25)] : List (S25)))).bind fun t345 => (if t345 = true then ((quaerelaw7_awake.f k).bind fun t346 => (some t346)) else (none))) else (none))) else (none)) else (none))) else (none)) else (none)))))) = some r := H
 have A6 := Aside0.mk A60
 clear A60
 replace H := Option.bind_eq_some_iff.mp H
 obtain ⟨⟨t334, t335⟩, A70, H⟩ := H
 replace H : ((quaereref8_LitCompare.f k l0 a1_0 l1_1 a2_0 l2_1).bind fun bt336 => ((lit_May.f k l0 a1_0 l1_1).bind fun t338 => ((quaereref8_LitMay.f k l0 a1_0 l1_1).bind fun t339 => (if (t338 == t339) = true then (if t330 = t332 then ((quaerelaw0_Num.f t331).bind fun t340 => (if t340 = t333 then (if t334 = bt336.1 then ((quaerelaw0_Num.f t335).bind fun t341 => (if t341 = bt336.2 then ((quaerelaw0_SameLits.f k t327 (([(⟨a1_0, l1_1⟩ : S25), (⟨a2_0, l2_1⟩ : S25)] : List (S25)))).bind fun t345 => (if t345 = true then ((quaerelaw7_awake.f k).bind fun t346 => (some t346)) else (none))) else (none))) else (none)) else (none))) else (none)) else (none))))) = some r := H
 have A7 := Aside0.mk A70
 clear A70
 replace H := Option.bind_eq_some_iff.mp H
 obtain ⟨⟨t336, t337⟩, A80, H⟩ := H
 replace H : ((lit_May.f k l0 a1_0 l1_1).bind fun t338 => ((quaereref8_LitMay.f k l0 a1_0 l1_1).bind fun t339 => (if (t338 == t339) = true then (if t330 = t332 then ((quaerelaw0_Num.f t331).bind fun t340 => (if t340 = t333 then (if t334 = t336 then ((quaerelaw0_Num.f t335).bind fun t341 => (if t341 = t337 then ((quaerelaw0_SameLits.f k t327 (([(⟨a1_0, l1_1⟩ : S25), (⟨a2_0, l2_1⟩ : S25)] : List (S25)))).bind fun t345 => (if t345 = true then ((quaerelaw7_awake.f k).bind fun t346 => (some t346)) else (none))) else (none))) else (none)) else (none))) else (none)) else (none)))) = some r := H
 have A8 := Aside0.mk A80
 clear A80
 replace H := Option.bind_eq_some_iff.mp H
 obtain ⟨t338, A90, H⟩ := H
 replace H : ((quaereref8_LitMay.f k l0 a1_0 l1_1).bind fun t339 => (if (t338 == t339) = true then (if t330 = t332 then ((quaerelaw0_Num.f t331).bind fun t340 => (if t340 = t333 then (if t334 = t336 then ((quaerelaw0_Num.f t335).bind fun t341 => (if t341 = t337 then ((quaerelaw0_SameLits.f k t327 (([(⟨a1_0, l1_1⟩ : S25), (⟨a2_0, l2_1⟩ : S25)] : List (S25)))).bind fun t345 => (if t345 = true then ((quaerelaw7_awake.f k).bind fun t346 => (some t346)) else (none))) else (none))) else (none)) else (none))) else (none)) else (none))) = some r := H
 have A9 := Aside0.mk A90
 clear A90
 replace H := Option.bind_eq_some_iff.mp H
 obtain ⟨t339, A100, H⟩ := H
 replace H : (if (t338 == t339) = true then (if t330 = t332 then ((quaerelaw0_Num.f t331).bind fun t340 => (if t340 = t333 then (if t334 = t336 then ((quaerelaw0_Num.f t335).bind fun t341 => (if t341 = t337 then ((quaerelaw0_SameLits.f k t327 (([(⟨a1_0, l1_1⟩ : S25), (⟨a2_0, l2_1⟩ : S25)] : List (S25)))).bind fun t345 => (if t345 = true then ((quaerelaw7_awake.f k).bind fun t346 => (some t346)) else (none))) else (none))) else (none)) else (none))) else (none)) else (none)) = some r := H
 have A10 := Aside0.mk A100
 clear A100
 by_cases c11 : (t338 == t339) = true
 ·rw [if_pos c11] at H
  have c11b0 : (t338 == t339) = true := c11
  (try (have c11b1 : decide (t338 = t339) = true := by simpa using c11))
  (try (have c11b2 : (t338 == t339) = true := by simpa using c11))
  clear c11
  by_cases c12 : t330 = t332
  ·rw [if_pos c12] at H
   have c12b0 : (t330 == t332) = true := beq_iff_eq.mpr c12
   have c12b1 : (t330 != t332) = false := bne_eq_false_iff_eq.mpr c12
   clear c12
   replace H := Option.bind_eq_some_iff.mp H
   obtain ⟨t340, A130, H⟩ := H
   replace H : (if t340 = t333 then (if t334 = t336 then ((quaerelaw0_Num.f t335).bind fun t341 => (if t341 = t337 then ((quaerelaw0_SameLits.f k t327 (([(⟨a1_0, l1_1⟩ : S25), (⟨a2_0, l2_1⟩ : S25)] : List (S25)))).bind fun t345 => (if t345 = true then ((quaerelaw7_awake.f k).bind fun t346 => (some t346)) else (none))) else (none))) else (none)) else (none)) = some r := H
   have A13 := Aside0.mk A130
   clear A130
   by_cases c14 : t340 = t333
   ·rw [if_pos c14] at H
    have c14b0 : (t340 == t333) = true := beq_iff_eq.mpr c14
    have c14b1 : (t340 != t333) = false := bne_eq_false_iff_eq.mpr c14
    clear c14
    by_cases c15 : t334 = t336
    ·rw [if_pos c15] at H
     have c15b0 : (t334 == t336) = true := beq_iff_eq.mpr c15
     have c15b1 : (t334 != t336) = false := bne_eq_false_iff_eq.mpr c15
     clear c15
     replace H := Option.bind_eq_some_iff.mp H
     obtain ⟨t341, A160, H⟩ := H
     replace H : (if t341 = t337 then ((quaerelaw0_SameLits.f k t327 (([(⟨a1_0, l1_1⟩ : S25), (⟨a2_0, l2_1⟩ : S25)] : List (S25)))).bind fun t345 => (if t345 = true then ((quaerelaw7_awake.f k).bind fun t346 => (some t346)) else (none))) else (none)) = some r := H
     have A16 := Aside0.mk A160
     clear A160
     by_cases c17 : t341 = t337
     ·rw [if_pos c17] at H
      have c17b0 : (t341 == t337) = true := beq_iff_eq.mpr c17
      have c17b1 : (t341 != t337) = false := bne_eq_false_iff_eq.mpr c17
      clear c17
      obtain ⟨y342, hy342⟩ : ∃ y_ : List (S25), y_ = (([(⟨a1_0, l1_1⟩ : S25), (⟨a2_0, l2_1⟩ : S25)] : List (S25))) := ⟨_, rfl⟩
      replace H : ((quaerelaw0_SameLits.f k t327 y342).bind fun t345 => (if t345 = true then ((quaerelaw7_awake.f k).bind fun t346 => (some t346)) else (none))) = some r := by first | (rw [hy342]; with_reducible exact H) | (have H2_ := (Option.bind_some _ _).symm.trans H; rw [hy342]; with_reducible exact H2_) | (have H2_ := (Option.bind_some _ _).symm.trans H; with_reducible exact H2_) | with_reducible exact H | (rw [hy342]; exact H) | exact H
      have Ny342 := Aside0.mk hy342
      clear hy342
      replace H := Option.bind_eq_some_iff.mp H
      obtain ⟨t345, A180, H⟩ := H
      replace H : (if t345 = true then ((quaerelaw7_awake.f k).bind fun t346 => (some t346)) else (none)) = some r := H
      have A18 := Aside0.mk A180
      clear A180
      by_cases c19 : t345 = true
      ·subst c19
       have H1 : ((quaerelaw7_awake.f k).bind fun t346 => (some t346)) = some r := by rw [if_pos rfl] at H; exact H
       clear H
       have H := H1
       clear H1
       replace H := Option.bind_eq_some_iff.mp H
       obtain ⟨t346, A200, H⟩ := H
       replace H : (some t346) = some r := H
       have A20 := Aside0.mk A200
       clear A200
       obtain rfl := Option.some.inj H
       go_enter Tryd.func3, Tryd.ntmps3
       try go_wp2_with (first | ((with_reducible refine gate_dst (N := 4) rfl ?_); (try (refine gate_guard (by rfl) ?_; dsimp only)); refine box_event ?hg (N := 4) ?hd (cs := #[.bool a1_0, .slice A1_1 l1_1.length c1_1]) (t := 25) ?hr ?_; (case hd => rfl); (case hg => rfl); (case hr => first | (go_simp; done) | (go_simp; rfl)); intro gb322 hg w21 hbox hb; have n0_ := Aside0.mk (Kd.V_below (Kd.V_elderB (by (with_reducible repeat (first | apply Kd.V_alloc | apply Kd.V_drewN | apply Kd.V_drew)); exact HO1_1.out) gb322 (Nat.le_of_eq hg.symm)) hb); have n1_ := Aside0.mk (Kd.V_below (Kd.V_elderB (by (with_reducible repeat (first | apply Kd.V_alloc | apply Kd.V_drewN | apply Kd.V_drew)); exact HO2_1.out) gb322 (Nat.le_of_eq hg.symm)) hb); have n2_ := Aside0.mk (below_step bB hb); have n3_ := Aside0.mk (hbox); have n4_ := Aside0.mk ((by rw [hg]; exact (below_size bB) : w.heap.size ≤ gb322)); have n5_ := Aside0.mk ((by rw [hg]; exact (below_size bB) : w.heap.size ≤ gb322)); clear HO1_1; clear HO2_1; clear HB; have HO1_1 := n0_; have HO2_1 := n1_; have HB := n2_; have BK322 := n3_; have GW322 := n4_; have GE322 := n5_; clear n0_ n1_ n2_ n3_ n4_ n5_; clear hb hbox hg) | ((with_reducible refine gate_dst (N := 5) rfl ?_); (try (refine gate_guard (by rfl) ?_; dsimp only)); refine box_event ?hg (N := 5) ?hd (cs := #[.bool a2_0, .slice A2_1 l2_1.length c2_1]) (t := 25) ?hr ?_; (case hd => rfl); (case hg => rfl); (case hr => first | (go_simp; done) | (go_simp; rfl)); intro gb323 hg w22 hbox hb; have n0_ := Aside0.mk (Kd.V_below (Kd.V_elderB (by (with_reducible repeat (first | apply Kd.V_alloc | apply Kd.V_drewN | apply Kd.V_drew)); exact HO1_1.out) gb323 (Nat.le_of_eq hg.symm)) hb); have n1_ := Aside0.mk (Kd.V_below (Kd.V_elderB (by (with_reducible repeat (first | apply Kd.V_alloc | apply Kd.V_drewN | apply Kd.V_drew)); exact HO2_1.out) gb323 (Nat.le_of_eq hg.symm)) hb); have n2_ := Aside0.mk (blk_below (g := gb322) (o := .cells #[.bool a1_0, .slice A1_1 l1_1.length c1_1] 25 (0, 0)) (bK BK322) hb); have n3_ := Aside0.mk (below_step bS hb); have n4_ := Aside0.mk (hbox); have n5_ := Aside0.mk ((by rw [hg]; exact (below_size bS) : w.heap.size ≤ gb323)); have n6_ := Aside0.mk ((by rw [hg]; exact (below_size bS) : w.heap.size ≤ gb323)); have n7_ := Aside0.mk ((by rw [hg]; exact Nat.ne_of_lt (blk_lt (g := gb322) (o := .cells #[.bool a1_0, .slice A1_1 l1_1.length c1_1] 25 (0, 0)) (bK BK322)) : gb322 ≠ gb323)); have n8_ := Aside0.mk ((by rw [hg]; exact Nat.ne_of_gt (blk_lt (g := gb322) (o := .cells #[.bool a1_0, .slice A1_1 l1_1.length c1_1] 25 (0, 0)) (bK BK322)) : gb323 ≠ gb322)); clear HO1_1; clear HO2_1; clear BK322; clear HB; have HO1_1 := n0_; have HO2_1 := n1_; have BK322 := n2_; have HB := n3_; have BK323 := n4_; have GW323 := n5_; have GE323 := n6_; have NB322_323 := n7_; have NB323_322 := n8_; clear n0_ n1_ n2_ n3_ n4_ n5_ n6_ n7_ n8_; clear hb hbox hg; have hnb23 := NB322_323.out; have hnc23 := NB323_322.out; have hcz24_0 : w22.cell? ⟨gb322, 0, none⟩ = some (.bool a1_0) := (blk_cell BK322.out 0).trans rfl; have hcz24_1 : w22.cell? ⟨gb322, 1, none⟩ = some (.slice A1_1 l1_1.length c1_1) := (blk_cell BK322.out 1).trans rfl; have hfz24_0 := blk_frozen BK322.out 0; have hfz24_1 := blk_frozen BK322.out 1; have hcz25_0 : w22.cell? ⟨gb323, 0, none⟩ = some (.bool a2_0) := (blk_cell BK323.out 0).trans rfl; have hcz25_1 : w22.cell? ⟨gb323, 1, none⟩ = some (.slice A2_1 l2_1.length c2_1) := (blk_cell BK323.out 1).trans rfl; have hfz25_0 := blk_frozen BK323.out 0; have hfz25_1 := blk_frozen BK323.out 1) | ((with_reducible refine gate_dst (N := 18) rfl ?_); (try (refine gate_guard (by rfl) ?_; dsimp only)); refine Kd.N_lit k25 _ 25 ?hg (N' := 18) ?hd (xs := ([(⟨a1_0, l1_1⟩ : S25), (⟨a2_0, l2_1⟩ : S25)] : List (S25))) (inner := [.bool a1_0, .slice A1_1 l1_1.length c1_1, .bool a2_0, .slice A2_1 l2_1.length c2_1]) (ok := (fun k_ => ((P1_1_ k_ ∨ P2_1_ k_) ∨ w.heap.size ≤ k_) ∧ k_ ≠ gb322 ∧ k_ ≠ gb323)) (okp := (fun k_ => ((P1_1_ k_ ∨ P2_1_ k_) ∨ w.heap.size ≤ k_) ∧ k_ ≠ gb322 ∧ k_ ≠ gb323)) ?hr ?hp (fun _ hk => hk) ((show ∀ k_, w22.heap.size ≤ k_ → (fun k_ => ((P1_1_ k_ ∨ P2_1_ k_) ∨ w.heap.size ≤ k_) ∧ k_ ≠ gb322 ∧ k_ ≠ gb323) k_ from fun k_ hk => ⟨(.inr (Nat.le_trans (below_size bS) hk)), Kd.freshB (g := gb322) (o := .cells #[.bool a1_0, .slice A1_1 l1_1.length c1_1] 25 (0, 0)) (bK BK322) k_ hk, Kd.freshB (g := gb323) (o := .cells #[.bool a2_0, .slice A2_1 l2_1.length c2_1] 25 (0, 0)) (bK BK323) k_ hk⟩) _ (Nat.le_refl _)) (Below.refl _ _) (Nat.le_refl _) (by simp) ?_; (case hd => rfl); (case hg => rfl); (case hr => first | (go_simp; done) | (go_simp; rfl)); (case hp => exact (Reps.c2 (show Kd.FK k25 _ _ (⟨a1_0, l1_1⟩ : S25) [.bool a1_0, .slice A1_1 l1_1.length c1_1] from (k25_mkF _ _ (⟨a1_0, l1_1⟩ : S25) (Kd.V_reads' (Kd.V_mono (ok' := (fun k_ => ((P1_1_ k_ ∨ P2_1_ k_) ∨ w.heap.size ≤ k_) ∧ k_ ≠ gb322 ∧ k_ ≠ gb323)) (HO1_1.out) (fun k_ hk => ⟨hk.1.1, ⟨hk.1.2, hk.2⟩⟩))).2.1 (Kd.V_F (e := 0) (base := 0) (Kd.V_mono (ok' := (fun k_ => ((P1_1_ k_ ∨ P2_1_ k_) ∨ w.heap.size ≤ k_) ∧ k_ ≠ gb322 ∧ k_ ≠ gb323)) (HO1_1.out) (fun k_ hk => ⟨hk.1.1, ⟨hk.1.2, hk.2⟩⟩))))) (Reps.c2 (show Kd.FK k25 _ _ (⟨a2_0, l2_1⟩ : S25) [.bool a2_0, .slice A2_1 l2_1.length c2_1] from (k25_mkF _ _ (⟨a2_0, l2_1⟩ : S25) (Kd.V_reads' (Kd.V_mono (ok' := (fun k_ => ((P1_1_ k_ ∨ P2_1_ k_) ∨ w.heap.size ≤ k_) ∧ k_ ≠ gb322 ∧ k_ ≠ gb323)) (HO2_1.out) (fun k_ hk => ⟨hk.1.1, ⟨hk.1.2, hk.2⟩⟩))).2.1 (Kd.V_F (e := 0) (base := 0) (Kd.V_mono (ok' := (fun k_ => ((P1_1_ k_ ∨ P2_1_ k_) ∨ w.heap.size ≤ k_) ∧ k_ ≠ gb322 ∧ k_ ≠ gb323)) (HO2_1.out) (fun k_ hk => ⟨hk.1.1, ⟨hk.1.2, hk.2⟩⟩))))) (Reps.none _ _)))); intro v325 w26 ho27 hb hg_ hnew_; clear hg_ hnew_; (first | rw [← Ny324.out] at ho27 | (simp only [Int.reduceToNat] at ho27; rw [← Ny324.out] at ho27)); have n0_ := Aside0.mk (Kd.V_elder' (by (with_reducible repeat (first | apply Kd.V_alloc | apply Kd.V_drewN | apply Kd.V_drew)); exact HO1_1.out) (Kd.N_base ho27) hb); have n1_ := Aside0.mk (Kd.V_elder' (by (with_reducible repeat (first | apply Kd.V_alloc | apply Kd.V_drewN | apply Kd.V_drew)); exact HO2_1.out) (Kd.N_base ho27) hb); have n2_ := Aside0.mk (Kd.N_lower ho27 (below_size bS)); have n3_ := Aside0.mk (blk_below (g := gb322) (o := .cells #[.bool a1_0, .slice A1_1 l1_1.length c1_1] 25 (0, 0)) (bK BK322) hb); have n4_ := Aside0.mk (blk_below (g := gb323) (o := .cells #[.bool a2_0, .slice A2_1 l2_1.length c2_1] 25 (0, 0)) (bK BK323) hb); have n5_ := Aside0.mk (below_step bS hb); clear HO1_1; clear HO2_1; clear BK322; clear BK323; clear HB; have HO1_1 := n0_; have HO2_1 := n1_; have HO326 := n2_; have BK322 := n3_; have BK323 := n4_; have HB := n5_; clear n0_ n1_ n2_ n3_ n4_ n5_; clear hb ho27; obtain ⟨Ao28, co28, eo28⟩ := Kd.N_slice HO326.out; subst eo28) | ((with_reducible refine gate_callee (f := 9) rfl ?_); refine goesL_ (some 19) rfl rfl Tryd.func9 (by kernel_rfl) rfl #[.slice Ao28 y324.length co28] rfl mA ?_; (with_reducible refine (quaerelaw0_CopyLits.calls k _ _ y324 t327 _ ?side1 ?side2 A4.out).mono ?_); (case side1 => exact cK ((Kd.N_reads' HO326.out).2.2)); (case side2 => exact (Kd.N_reads' HO326.out).2.1); rintro e w29 ⟨v328, rfl, ho0, hb⟩; refine ⟨_, rfl, ?_⟩; have n0_ := Aside0.mk (Kd.V_elder' (by (with_reducible repeat (first | apply Kd.V_alloc | apply Kd.V_drewN | apply Kd.V_drew)); exact HO1_1.out) (by first | exact Kd.N_base ho0 | exact Kd.S_base ho0) hb); have n1_ := Aside0.mk (Kd.V_elder' (by (with_reducible repeat (first | apply Kd.V_alloc | apply Kd.V_drewN | apply Kd.V_drew)); exact HO2_1.out) (by first | exact Kd.N_base ho0 | exact Kd.S_base ho0) hb); have n2_ := Aside0.mk (Kd.N_elder' (nK HO326) (by first | exact Kd.N_base ho0 | exact Kd.S_base ho0) hb); have n3_ := Aside0.mk (Kd.N_lower (Kd.N_mono (ok' := fun k_ => ((P1_1_ k_ ∨ P2_1_ k_) ∨ w.heap.size ≤ k_) ∧ some k_ ≠ (.slice Ao28 y324.length co28 : Value).ownBlock ∧ k_ ≠ gb322 ∧ k_ ≠ gb323) (Kd.S_N (Kd.S_bound ho0)) (fun k_ hk_ => ⟨(.inr (Nat.le_trans (below_size bS) hk_.2.1)), (Kd.fresh' (Kd.N_lt (nK HO326)) k_ hk_.2.1), (Kd.freshB (g := gb322) (o := .cells #[.bool a1_0, .slice A1_1 l1_1.length c1_1] 25 (0, 0)) (bK BK322) k_ hk_.2.1), (Kd.freshB (g := gb323) (o := .cells #[.bool a2_0, .slice A2_1 l2_1.length c2_1] 25 (0, 0)) (bK BK323) k_ hk_.2.1)⟩)) (below_size bS)); have n4_ := Aside0.mk (blk_below (g := gb322) (o := .cells #[.bool a1_0, .slice A1_1 l1_1.length c1_1] 25 (0, 0)) (bK BK322) hb); have n5_ := Aside0.mk (blk_below (g := gb323) (o := .cells #[.bool a2_0, .slice A2_1 l2_1.length c2_1] 25 (0, 0)) (bK BK323) hb); have n6_ := Aside0.mk (below_step bS hb); clear HO1_1; clear HO2_1; clear HO326; clear BK322; clear BK323; clear HB; have HO1_1 := n0_; have HO2_1 := n1_; have HO326 := n2_; have HO329 := n3_; have BK322 := n4_; have BK323 := n5_; have HB := n6_; clear n0_ n1_ n2_ n3_ n4_ n5_ n6_; (try clear hb); (try clear hb2); (try clear hk); (try clear hi); (try clear ho0); have hcz30_0 : w29.cell? ⟨gb322, 0, none⟩ = some (.bool a1_0) := (blk_cell BK322.out 0).trans rfl; have hcz30_1 : w29.cell? ⟨gb322, 1, none⟩ = some (.slice A1_1 l1_1.length c1_1) := (blk_cell BK322.out 1).trans rfl; have hfz30_0 := blk_frozen BK322.out 0; have hfz30_1 := blk_frozen BK322.out 1) | ((with_reducible refine gate_callee (f := 10) rfl ?_); refine goesL_ (some 23) rfl rfl Tryd.func10 (by kernel_rfl) rfl #[.slice A0 l0.length c0, .agg #[.bool a1_0, .slice A1_1 l1_1.length c1_1]] rfl mA ?_; (with_reducible refine (lit_Weight.calls (hG := gK) k _ _ l0 a1_0 _ _ l1_1 t330 t331 _ ?side1 ?side2 ?side3 ?side4 A5.out).mono ?_); (case side1 => exact cK (Kd.C_below HR0.out HB.out)); (case side2 => exact HC0.out); (case side3 => exact cK ((Kd.V_reads' HO1_1.out).2.2)); (case side4 => exact (Kd.V_reads' HO1_1.out).2.1); rintro e w31 ⟨rfl, hb⟩; refine ⟨_, rfl, ?_⟩; have n0_ := Aside0.mk (Kd.V_below (by (with_reducible repeat (first | apply Kd.V_alloc | apply Kd.V_drewN | apply Kd.V_drew)); exact HO1_1.out) hb); have n1_ := Aside0.mk (Kd.V_below (by (with_reducible repeat (first | apply Kd.V_alloc | apply Kd.V_drewN | apply Kd.V_drew)); exact HO2_1.out) hb); have n2_ := Aside0.mk (Kd.N_below (nK HO326) hb); have n3_ := Aside0.mk (Kd.N_below (nK HO329) hb); have n4_ := Aside0.mk (blk_below (g := gb322) (o := .cells #[.bool a1_0, .slice A1_1 l1_1.length c1_1] 25 (0, 0)) (bK BK322) hb); have n5_ := Aside0.mk (blk_below (g := gb323) (o := .cells #[.bool a2_0, .slice A2_1 l2_1.length c2_1] 25 (0, 0)) (bK BK323) hb); have n6_ := Aside0.mk (below_step bS hb); clear HO1_1; clear HO2_1; clear HO326; clear HO329; clear BK322; clear BK323; clear HB; have HO1_1 := n0_; have HO2_1 := n1_; have HO326 := n2_; have HO329 := n3_; have BK322 := n4_; have BK323 := n5_; have HB := n6_; clear n0_ n1_ n2_ n3_ n4_ n5_ n6_; (try clear hb); (try clear hb2); (try clear hk); (try clear hi); have hcz32_0 : w31.cell? ⟨gb322, 0, none⟩ = some (.bool a1_0) := (blk_cell BK322.out 0).trans rfl; have hcz32_1 : w31.cell? ⟨gb322, 1, none⟩ = some (.slice A1_1 l1_1.length c1_1) := (blk_cell BK322.out 1).trans rfl; have hfz32_0 := blk_frozen BK322.out 0; have hfz32_1 := blk_frozen BK322.out 1) | ((with_reducible refine gate_callee (f := 11) rfl ?_); refine goesL_ (some 29) rfl rfl Tryd.func11 (by kernel_rfl) rfl #[.slice A0 l0.length c0, .agg #[.bool a1_0, .slice A1_1 l1_1.length c1_1]] rfl mA ?_; (with_reducible refine (quaereref8_LitWeight.calls k _ _ l0 a1_0 _ _ l1_1 t332 t333 _ ?side1 ?side2 ?side3 ?side4 A6.out).mono ?_); (case side1 => exact cK (Kd.C_below HR0.out HB.out)); (case side2 => exact HC0.out); (case side3 => exact cK ((Kd.V_reads' HO1_1.out).2.2)); (case side4 => exact (Kd.V_reads' HO1_1.out).2.1); rintro e w33 ⟨rfl, hb⟩; refine ⟨_, rfl, ?_⟩; have n0_ := Aside0.mk (Kd.V_below (by (with_reducible repeat (first | apply Kd.V_alloc | apply Kd.V_drewN | apply Kd.V_drew)); exact HO1_1.out) hb); have n1_ := Aside0.mk (Kd.V_below (by (with_reducible repeat (first | apply Kd.V_alloc | apply Kd.V_drewN | apply Kd.V_drew)); exact HO2_1.out) hb); have n2_ := Aside0.mk (Kd.N_below (nK HO326) hb); have n3_ := Aside0.mk (Kd.N_below (nK HO329) hb); have n4_ := Aside0.mk (blk_below (g := gb322) (o := .cells #[.bool a1_0, .slice A1_1 l1_1.length c1_1] 25 (0, 0)) (bK BK322) hb); have n5_ := Aside0.mk (blk_below (g := gb323) (o := .cells #[.bool a2_0, .slice A2_1 l2_1.length c2_1] 25 (0, 0)) (bK BK323) hb); have n6_ := Aside0.mk (below_step bS hb); clear HO1_1; clear HO2_1; clear HO326; clear HO329; clear BK322; clear BK323; clear HB; have HO1_1 := n0_; have HO2_1 := n1_; have HO326 := n2_; have HO329 := n3_; have BK322 := n4_; have BK323 := n5_; have HB := n6_; clear n0_ n1_ n2_ n3_ n4_ n5_ n6_; (try clear hb); (try clear hb2); (try clear hk); (try clear hi); have hcz34_0 : w33.cell? ⟨gb322, 0, none⟩ = some (.bool a1_0) := (blk_cell BK322.out 0).trans rfl; have hcz34_1 : w33.cell? ⟨gb322, 1, none⟩ = some (.slice A1_1 l1_1.length c1_1) := (blk_cell BK322.out 1).trans rfl; have hfz34_0 := blk_frozen BK322.out 0; have hfz34_1 := blk_frozen BK322.out 1; have hcz35_0 : w33.cell? ⟨gb323, 0, none⟩ = some (.bool a2_0) := (blk_cell BK323.out 0).trans rfl; have hcz35_1 : w33.cell? ⟨gb323, 1, none⟩ = some (.slice A2_1 l2_1.length c2_1) := (blk_cell BK323.out 1).trans rfl; have hfz35_0 := blk_frozen BK323.out 0; have hfz35_1 := blk_frozen BK323.out 1) | ((with_reducible refine gate_callee (f := 12) rfl ?_); refine goesL_ (some 36) rfl rfl Tryd.func12 (by kernel_rfl) rfl #[.slice A0 l0.length c0, .agg #[.bool a1_0, .slice A1_1 l1_1.length c1_1], .agg #[.bool a2_0, .slice A2_1 l2_1.length c2_1]] rfl mA ?_; (with_reducible refine (lit_Compare.calls (hG := gK) k _ _ l0 a1_0 _ _ l1_1 a2_0 _ _ l2_1 t334 t335 _ ?side1 ?side2 ?side3 ?side4 ?side5 ?side6 A7.out).mono ?_); (case side1 => exact cK (Kd.C_below HR0.out HB.out)); (case side2 => exact HC0.out); (case side3 => exact cK ((Kd.V_reads' HO1_1.out).2.2)); (case side4 => exact (Kd.V_reads' HO1_1.out).2.1); (case side5 => exact cK ((Kd.V_reads' HO2_1.out).2.2)); (case side6 => exact (Kd.V_reads' HO2_1.out).2.1); rintro e w36 ⟨rfl, hb⟩; refine ⟨_, rfl, ?_⟩; have n0_ := Aside0.mk (Kd.V_below (by (with_reducible repeat (first | apply Kd.V_alloc | apply Kd.V_drewN | apply Kd.V_drew)); exact HO1_1.out) hb); have n1_ := Aside0.mk (Kd.V_below (by (with_reducible repeat (first | apply Kd.V_alloc | apply Kd.V_drewN | apply Kd.V_drew)); exact HO2_1.out) hb); have n2_ := Aside0.mk (Kd.N_below (nK HO326) hb); have n3_ := Aside0.mk (Kd.N_below (nK HO329) hb); have n4_ := Aside0.mk (blk_below (g := gb322) (o := .cells #[.bool a1_0, .slice A1_1 l1_1.length c1_1] 25 (0, 0)) (bK BK322) hb); have n5_ := Aside0.mk (blk_below (g := gb323) (o := .cells #[.bool a2_0, .slice A2_1 l2_1.length c2_1] 25 (0, 0)) (bK BK323) hb); have n6_ := Aside0.mk (below_step bS hb); clear HO1_1; clear HO2_1; clear HO326; clear HO329; clear BK322; clear BK323; clear HB; have HO1_1 := n0_; have HO2_1 := n1_; have HO326 := n2_; have HO329 := n3_; have BK322 := n4_; have BK323 := n5_; have HB := n6_; clear n0_ n1_ n2_ n3_ n4_ n5_ n6_; (try clear hb); (try clear hb2); (try clear hk); (try clear hi); have hcz37_0 : w36.cell? ⟨gb322, 0, none⟩ = some (.bool a1_0) := (blk_cell BK322.out 0).trans rfl; have hcz37_1 : w36.cell? ⟨gb322, 1, none⟩ = some (.slice A1_1 l1_1.length c1_1) := (blk_cell BK322.out 1).trans rfl; have hfz37_0 := blk_frozen BK322.out 0; have hfz37_1 := blk_frozen BK322.out 1; have hcz38_0 : w36.cell? ⟨gb323, 0, none⟩ = some (.bool a2_0) := (blk_cell BK323.out 0).trans rfl; have hcz38_1 : w36.cell? ⟨gb323, 1, none⟩ = some (.slice A2_1 l2_1.length c2_1) := (blk_cell BK323.out 1).trans rfl; have hfz38_0 := blk_frozen BK323.out 0; have hfz38_1 := blk_frozen BK323.out 1) | ((with_reducible refine gate_callee (f := 13) rfl ?_); refine goesL_ (some 43) rfl rfl Tryd.func13 (by kernel_rfl) rfl #[.slice A0 l0.length c0, .agg #[.bool a1_0, .slice A1_1 l1_1.length c1_1], .agg #[.bool a2_0, .slice A2_1 l2_1.length c2_1]] rfl mA ?_; (with_reducible refine (quaereref8_LitCompare.calls k _ _ l0 a1_0 _ _ l1_1 a2_0 _ _ l2_1 t336 t337 _ ?side1 ?side2 ?side3 ?side4 ?side5 ?side6 A8.out).mono ?_); (case side1 => exact cK (Kd.C_below HR0.out HB.out)); (case side2 => exact HC0.out); (case side3 => exact cK ((Kd.V_reads' HO1_1.out).2.2)); (case side4 => exact (Kd.V_reads' HO1_1.out).2.1); (case side5 => exact cK ((Kd.V_reads' HO2_1.out).2.2)); (case side6 => exact (Kd.V_reads' HO2_1.out).2.1); rintro e w39 ⟨rfl, hb⟩; refine ⟨_, rfl, ?_⟩; have n0_ := Aside0.mk (Kd.V_below (by (with_reducible repeat (first | apply Kd.V_alloc | apply Kd.V_drewN | apply Kd.V_drew)); exact HO1_1.out) hb); have n1_ := Aside0.mk (Kd.V_below (by (with_reducible repeat (first | apply Kd.V_alloc | apply Kd.V_drewN | apply Kd.V_drew)); exact HO2_1.out) hb); have n2_ := Aside0.mk (Kd.N_below (nK HO326) hb); have n3_ := Aside0.mk (Kd.N_below (nK HO329) hb); have n4_ := Aside0.mk (blk_below (g := gb322) (o := .cells #[.bool a1_0, .slice A1_1 l1_1.length c1_1] 25 (0, 0)) (bK BK322) hb); have n5_ := Aside0.mk (blk_below (g := gb323) (o := .cells #[.bool a2_0, .slice A2_1 l2_1.length c2_1] 25 (0, 0)) (bK BK323) hb); have n6_ := Aside0.mk (below_step bS hb); clear HO1_1; clear HO2_1; clear HO326; clear HO329; clear BK322; clear BK323; clear HB; have HO1_1 := n0_; have HO2_1 := n1_; have HO326 := n2_; have HO329 := n3_; have BK322 := n4_; have BK323 := n5_; have HB := n6_; clear n0_ n1_ n2_ n3_ n4_ n5_ n6_; (try clear hb); (try clear hb2); (try clear hk); (try clear hi)))
       have n0_ := Aside0.mk (Kd.V_drew HO1_1.out)
       have n1_ := Aside0.mk (Kd.V_drew HO2_1.out)
       have n2_ := Aside0.mk (Kd.N_drew HO326.out)
       have n3_ := Aside0.mk (Kd.N_drew HO329.out)
       have n4_ := Aside0.mk (blk_drew BK322.out)
       have n5_ := Aside0.mk (blk_drew BK323.out)
       have n6_ := Aside0.mk (below_drew1 HB.out)
       clear HO1_1 HO2_1 HO326 HO329 BK322 BK323 HB
       have HO1_1 := n0_
       have HO2_1 := n1_
       have HO326 := n2_
       have HO329 := n3_
       have BK322 := n4_
       have BK323 := n5_
       have HB := n6_
       clear n0_ n1_ n2_ n3_ n4_ n5_ n6_
       refine start_ (n := 40) (S := fun w' => w'.cell? ⟨gb322, 0, none⟩ = some (.bool a1_0) ∧ w'.cell? ⟨gb322, 1, none⟩ = some (.slice A1_1 l1_1.length c1_1) ∧ w'.cell? ⟨gb323, 0, none⟩ = some (.bool a2_0) ∧ w'.cell? ⟨gb323, 1, none⟩ = some (.slice A2_1 l2_1.length c2_1)) (ds := []) #[false, false, false, false, false, false, false, false, false, false, false, false, false, false, false, false, false, false, false, false, false, false, false, false, false, false, false, false, false, false, false, false, false, false, false, false, false, false, false, false] (by kernel_rfl) rfl rfl ⟨(blk_cell BK322.out 0).trans rfl, (blk_cell BK322.out 1).trans rfl, (blk_cell BK323.out 0).trans rfl, (blk_cell BK323.out 1).trans rfl⟩ (fun hHeld => ?_); refine with_tabW quaerelaw7_Lits.tab6 quaerelaw7_Lits.bits6 (fun HT_ HW_ => ?_)
       generalize w39.drew = w40 at HO1_1 HO2_1 HO326 HO329 BK322 BK323 HB hHeld ⊢
       refine pure_ (i := 0) (N := some 46) (v := ?_) (a' := ?_) #[true, false, false, false, false, false, false, false, false, false, false, false, false, false, false, false, false, false, false, false, false, false, false, false, false, false, false, false, false, false, false, false, false, false, false, false, false, false, false, false] rfl rfl (any_of HT_.out (by kernel_rfl)) (fun _ _ _ h => h) (Or.inl ⟨by rfl, ?_⟩) ?_ ?_
       rotate_left
       ·intro w'
        go_simp
        with_reducible rfl
       rotate_left
       ·simp only [Act.put, List.setIfInBounds_toArray, List.set_cons_zero, List.set_cons_succ, i64_w, i32_w]
        rfl
       refine pure_ (i := 3) (N := some 49) (v := ?_) (a' := ?_) #[true, false, false, true, false, false, false, false, false, false, false, false, false, false, false, false, false, false, false, false, false, false, false, false, false, false, false, false, false, false, false, false, false, false, false, false, false, false, false, false] rfl rfl (any_of HT_.out (by kernel_rfl)) (fun _ _ _ h => h) (Or.inl ⟨by rfl, ?_⟩) ?_ ?_
       rotate_left
       ·intro w'
        go_simp
        with_reducible rfl
       rotate_left
       ·simp only [Act.put, List.setIfInBounds_toArray, List.set_cons_zero, List.set_cons_succ, i64_w, i32_w]
        rfl
       refine take_ (i := 1) (N := some 47) (v := ?_) (a' := ?_) #[true, true, false, true, false, false, false, false, false, false, false, false, false, false, false, false, false, false, false, false, false, false, false, false, false, false, false, false, false, false, false, false, false, false, false, false, false, false, false, false] rfl rfl (take_ofW HT_.out HW_.out (by kernel_rfl)) (fun _ _ _ h => h) (Or.inl ⟨by rfl, ?_⟩) hHeld ?_ ?_
       rotate_left
       ·rintro w' ⟨s0, s1, s2, s3⟩
        go_simp
        with_reducible rfl
       rotate_left
       ·simp only [Act.put, List.setIfInBounds_toArray, List.set_cons_zero, List.set_cons_succ, i64_w, i32_w]
        rfl
       refine take_ (i := 4) (N := some 50) (v := ?_) (a' := ?_) #[true, true, false, true, true, false, false, false, false, false, false, false, false, false, false, false, false, false, false, false, false, false, false, false, false, false, false, false, false, false, false, false, false, false, false, false, false, false, false, false] rfl rfl (take_ofW HT_.out HW_.out (by kernel_rfl)) (fun _ _ _ h => h) (Or.inl ⟨by rfl, ?_⟩) hHeld ?_ ?_
       rotate_left
       ·rintro w' ⟨s0, s1, s2, s3⟩
        go_simp
        with_reducible rfl
       rotate_left
       ·simp only [Act.put, List.setIfInBounds_toArray, List.set_cons_zero, List.set_cons_succ, i64_w, i32_w]
        rfl
       refine one_ (i := 2) (N := some 48) #[true, true, true, true, true, false, false, false, false, false, false, false, false, false, false, false, false, false, false, false, false, false, false, false, false, false, false, false, false, false, false, false, false, false, false, false, false, false, false, false] rfl rfl (one_of HT_.out (by kernel_rfl)) (by decide) (fun K hK => ?_)
       refine goes_ Tryd.func14 (by kernel_rfl) rfl #[.slice A0 l0.length c0, .agg #[.bool a1_0, .slice A1_1 l1_1.length c1_1]] (by rfl) rfl rfl mA ?_
       with_reducible refine (lit_May.calls (hG := gK) k _ _ l0 a1_0 _ _ l1_1 t338 _ ?side1 ?side2 ?side3 ?side4 A9.out).mono ?_
       (case side1 => exact cK (Kd.C_below HR0.out HB.out))
       (case side2 => exact HC0.out)
       (case side3 => exact cK ((Kd.V_reads' HO1_1.out).2.2))
       (case side4 => exact (Kd.V_reads' HO1_1.out).2.1)
       rintro e w41 ⟨rfl, hb⟩
       refine ⟨_, rfl, ?_⟩
       have n0_ := Aside0.mk (Kd.V_below (by (with_reducible repeat (first | apply Kd.V_alloc | apply Kd.V_drewN | apply Kd.V_drew)); exact HO1_1.out) hb)
       have n1_ := Aside0.mk (Kd.V_below (by (with_reducible repeat (first | apply Kd.V_alloc | apply Kd.V_drewN | apply Kd.V_drew)); exact HO2_1.out) hb)
       have n2_ := Aside0.mk (Kd.N_below (nK HO326) hb)
       have n3_ := Aside0.mk (Kd.N_below (nK HO329) hb)
       have n4_ := Aside0.mk (blk_below (g := gb322) (o := .cells #[.bool a1_0, .slice A1_1 l1_1.length c1_1] 25 (0, 0)) (bK BK322) hb)
       have n5_ := Aside0.mk (blk_below (g := gb323) (o := .cells #[.bool a2_0, .slice A2_1 l2_1.length c2_1] 25 (0, 0)) (bK BK323) hb)
       have n6_ := Aside0.mk (below_step bS hb)
       clear HO1_1 HO2_1 HO326 HO329 BK322 BK323 HB
       have HO1_1 := n0_
       have HO2_1 := n1_
       have HO326 := n2_
       have HO329 := n3_
       have BK322 := n4_
       have BK323 := n5_
       have HB := n6_
       clear n0_ n1_ n2_ n3_ n4_ n5_ n6_
       (try clear hb)
       (try clear hb2)
       (try clear hk)
       (try clear hi)
       refine hK.out _ _ ⟨(blk_cell BK322.out 0).trans rfl, (blk_cell BK322.out 1).trans rfl, (blk_cell BK323.out 0).trans rfl, (blk_cell BK323.out 1).trans rfl⟩ (fun hHeld => ?_)
       clear hK K
       refine norm_ (a' := ?_) ?_ ?_
       rotate_left
       ·show Act.put _ (some 48) _ = _
        simp only [Act.put, List.setIfInBounds_toArray, List.set_cons_zero, List.set_cons_succ, i64_w, i32_w]
        rfl
       refine one_ (i := 5) (N := some 51) #[true, true, true, true, true, true, false, false, false, false, false, false, false, false, false, false, false, false, false, false, false, false, false, false, false, false, false, false, false, false, false, false, false, false, false, false, false, false, false, false] rfl rfl (one_of HT_.out (by kernel_rfl)) (by decide) (fun K hK => ?_)
       refine goes_ Tryd.func15 (by kernel_rfl) rfl #[.slice A0 l0.length c0, .agg #[.bool a1_0, .slice A1_1 l1_1.length c1_1]] (by rfl) rfl rfl mA ?_
       with_reducible refine (quaereref8_LitMay.calls k _ _ l0 a1_0 _ _ l1_1 t339 _ ?side1 ?side2 ?side3 ?side4 A10.out).mono ?_
       (case side1 => exact cK (Kd.C_below HR0.out HB.out))
       (case side2 => exact HC0.out)
       (case side3 => exact cK ((Kd.V_reads' HO1_1.out).2.2))
       (case side4 => exact (Kd.V_reads' HO1_1.out).2.1)
       rintro e w42 ⟨rfl, hb⟩
       refine ⟨_, rfl, ?_⟩
       have n0_ := Aside0.mk (Kd.V_below (by (with_reducible repeat (first | apply Kd.V_alloc | apply Kd.V_drewN | apply Kd.V_drew)); exact HO1_1.out) hb)
       have n1_ := Aside0.mk (Kd.V_below (by (with_reducible repeat (first | apply Kd.V_alloc | apply Kd.V_drewN | apply Kd.V_drew)); exact HO2_1.out) hb)
       have n2_ := Aside0.mk (Kd.N_below (nK HO326) hb)
       have n3_ := Aside0.mk (Kd.N_below (nK HO329) hb)
       have n4_ := Aside0.mk (blk_below (g := gb322) (o := .cells #[.bool a1_0, .slice A1_1 l1_1.length c1_1] 25 (0, 0)) (bK BK322) hb)
       have n5_ := Aside0.mk (blk_below (g := gb323) (o := .cells #[.bool a2_0, .slice A2_1 l2_1.length c2_1] 25 (0, 0)) (bK BK323) hb)
       have n6_ := Aside0.mk (below_step bS hb)
       clear HO1_1 HO2_1 HO326 HO329 BK322 BK323 HB
       have HO1_1 := n0_
       have HO2_1 := n1_
       have HO326 := n2_
       have HO329 := n3_
       have BK322 := n4_
       have BK323 := n5_
       have HB := n6_
       clear n0_ n1_ n2_ n3_ n4_ n5_ n6_
       (try clear hb)
       (try clear hb2)
       (try clear hk)
       (try clear hi)
       refine hK.out _ _ ⟨(blk_cell BK322.out 0).trans rfl, (blk_cell BK322.out 1).trans rfl, (blk_cell BK323.out 0).trans rfl, (blk_cell BK323.out 1).trans rfl⟩ (fun hHeld => ?_)
       clear hK K
       refine norm_ (a' := ?_) ?_ ?_
       rotate_left
       ·show Act.put _ (some 51) _ = _
        simp only [Act.put, List.setIfInBounds_toArray, List.set_cons_zero, List.set_cons_succ, i64_w, i32_w]
        rfl
       refine pure_ (i := 6) (N := some 52) (v := ?_) (a' := ?_) #[true, true, true, true, true, true, true, false, false, false, false, false, false, false, false, false, false, false, false, false, false, false, false, false, false, false, false, false, false, false, false, false, false, false, false, false, false, false, false, false] rfl rfl (any_of HT_.out (by kernel_rfl)) (fun _ _ _ h => h) (Or.inl ⟨by rfl, ?_⟩) ?_ ?_
       rotate_left
       ·intro w'
        go_simp
        with_reducible rfl
       rotate_left
       ·simp only [Act.put, List.setIfInBounds_toArray, List.set_cons_zero, List.set_cons_succ, i64_w, i32_w]
        rfl
       refine pure_ (i := 7) (N := some 53) (v := ?_) (a' := ?_) #[true, true, true, true, true, true, true, true, false, false, false, false, false, false, false, false, false, false, false, false, false, false, false, false, false, false, false, false, false, false, false, false, false, false, false, false, false, false, false, false] rfl rfl (any_of HT_.out (by kernel_rfl)) (fun _ _ _ h => h) (Or.inl ⟨by rfl, ?_⟩) ?_ ?_
       rotate_left
       ·intro w'
        go_simp
        with_reducible rfl
       rotate_left
       ·simp only [Act.put, List.setIfInBounds_toArray, List.set_cons_zero, List.set_cons_succ, i64_w, i32_w]
        rfl
       refine pure_ (i := 8) (N := some 54) (v := ?_) (a' := ?_) #[true, true, true, true, true, true, true, true, true, false, false, false, false, false, false, false, false, false, false, false, false, false, false, false, false, false, false, false, false, false, false, false, false, false, false, false, false, false, false, false] rfl rfl (any_of HT_.out (by kernel_rfl)) (fun _ _ _ h => h) (Or.inl ⟨by rfl, ?_⟩) ?_ ?_
       rotate_left
       ·intro w'
        go_simp
        with_reducible rfl
       rotate_left
       ·simp only [Act.put, List.setIfInBounds_toArray, List.set_cons_zero, List.set_cons_succ, i64_w, i32_w]
        rfl
       refine pure_ (i := 9) (N := some 55) (v := ?_) (a' := ?_) #[true, true, true, true, true, true, true, true, true, true, false, false, false, false, false, false, false, false, false, false, false, false, false, false, false, false, false, false, false, false, false, false, false, false, false, false, false, false, false, false] rfl rfl (any_of HT_.out (by kernel_rfl)) (fun _ _ _ h => h) (Or.inl ⟨by rfl, ?_⟩) ?_ ?_
       rotate_left
       ·intro w'
        go_simp
        with_reducible rfl
       rotate_left
       ·simp only [Act.put, List.setIfInBounds_toArray, List.set_cons_zero, List.set_cons_succ, i64_w, i32_w]
        rfl
       refine pure_ (i := 10) (N := some 56) (v := ?_) (a' := ?_) #[true, true, true, true, true, true, true, true, true, true, true, false, false, false, false, false, false, false, false, false, false, false, false, false, false, false, false, false, false, false, false, false, false, false, false, false, false, false, false, false] rfl rfl (any_of HT_.out (by kernel_rfl)) (fun _ _ _ h => h) (Or.inl ⟨by rfl, ?_⟩) ?_ ?_
       rotate_left
       ·intro w'
        go_simp
        with_reducible rfl
       rotate_left
       ·simp only [Act.put, List.setIfInBounds_toArray, List.set_cons_zero, List.set_cons_succ, i64_w, i32_w]
        rfl
       refine pure_ (i := 11) (N := some 57) (v := ?_) (a' := ?_) #[true, true, true, true, true, true, true, true, true, true, true, true, false, false, false, false, false, false, false, false, false, false, false, false, false, false, false, false, false, false, false, false, false, false, false, false, false, false, false, false] rfl rfl (any_of HT_.out (by kernel_rfl)) (fun _ _ _ h => h) (Or.inl ⟨by rfl, ?_⟩) ?_ ?_
       rotate_left
       ·intro w'
        go_simp
        with_reducible rfl
       rotate_left
       ·simp only [Act.put, List.setIfInBounds_toArray, List.set_cons_zero, List.set_cons_succ, i64_w, i32_w]
        rfl
       refine pure_ (i := 12) (N := some 58) (v := ?_) (a' := ?_) #[true, true, true, true, true, true, true, true, true, true, true, true, true, false, false, false, false, false, false, false, false, false, false, false, false, false, false, false, false, false, false, false, false, false, false, false, false, false, false, false] rfl rfl (any_of HT_.out (by kernel_rfl)) (fun _ _ _ h => h) (Or.inl ⟨by rfl, ?_⟩) ?_ ?_
       rotate_left
       ·intro w'
        go_simp
        with_reducible rfl
       rotate_left
       ·simp only [Act.put, List.setIfInBounds_toArray, List.set_cons_zero, List.set_cons_succ, i64_w, i32_w]
        rfl
       refine pure_ (i := 13) (N := some 59) (v := ?_) (a' := ?_) #[true, true, true, true, true, true, true, true, true, true, true, true, true, true, false, false, false, false, false, false, false, false, false, false, false, false, false, false, false, false, false, false, false, false, false, false, false, false, false, false] rfl rfl (any_of HT_.out (by kernel_rfl)) (fun _ _ _ h => h) (Or.inl ⟨by rfl, ?_⟩) ?_ ?_
       rotate_left
       ·intro w'
        go_simp
        with_reducible rfl
       rotate_left
       ·simp only [Act.put, List.setIfInBounds_toArray, List.set_cons_zero, List.set_cons_succ, i64_w, i32_w]
        rfl
       refine pure_ (i := 15) (N := some 61) (v := ?_) (a' := ?_) #[true, true, true, true, true, true, true, true, true, true, true, true, true, true, false, true, false, false, false, false, false, false, false, false, false, false, false, false, false, false, false, false, false, false, false, false, false, false, false, false] rfl rfl (any_of HT_.out (by kernel_rfl)) (fun _ _ _ h => h) (Or.inl ⟨by rfl, ?_⟩) ?_ ?_
       rotate_left
       ·intro w'
        go_simp
        with_reducible rfl
       rotate_left
       ·simp only [Act.put, List.setIfInBounds_toArray, List.set_cons_zero, List.set_cons_succ, i64_w, i32_w]
        rfl
       refine one_ (i := 14) (N := some 60) #[true, true, true, true, true, true, true, true, true, true, true, true, true, true, true, true, false, false, false, false, false, false, false, false, false, false, false, false, false, false, false, false, false, false, false, false, false, false, false, false] rfl rfl (one_of HT_.out (by kernel_rfl)) (by decide) (fun K hK => ?_)
       refine goes_ Tryd.func16 (by kernel_rfl) rfl #[.int .i64 t331] (by rfl) rfl rfl mA ?_
       with_reducible refine (quaerelaw0_Num.calls t331 t340 _ A13.out).mono ?_
       rintro e w' ⟨rfl, ⟨nd, rfl⟩⟩
       refine ⟨_, rfl, ?_⟩
       refine hK.out _ _ ⟨(blk_cell BK322.out 0).trans rfl, (blk_cell BK322.out 1).trans rfl, (blk_cell BK323.out 0).trans rfl, (blk_cell BK323.out 1).trans rfl⟩ (fun hHeld => ?_)
       clear hK K
       refine norm_ (a' := ?_) ?_ ?_
       rotate_left
       ·show Act.put _ (some 60) _ = _
        simp only [Act.put, List.setIfInBounds_toArray, List.set_cons_zero, List.set_cons_succ, i64_w, i32_w]
        rfl
       refine pure_ (i := 16) (N := some 62) (v := ?_) (a' := ?_) #[true, true, true, true, true, true, true, true, true, true, true, true, true, true, true, true, true, false, false, false, false, false, false, false, false, false, false, false, false, false, false, false, false, false, false, false, false, false, false, false] rfl rfl (any_of HT_.out (by kernel_rfl)) (fun _ _ _ h => h) (Or.inl ⟨by rfl, ?_⟩) ?_ ?_
       rotate_left
       ·intro w'
        go_simp
        with_reducible rfl
       rotate_left
       ·simp only [Act.put, List.setIfInBounds_toArray, List.set_cons_zero, List.set_cons_succ, i64_w, i32_w]
        rfl
       refine pure_ (i := 17) (N := some 63) (v := ?_) (a' := ?_) #[true, true, true, true, true, true, true, true, true, true, true, true, true, true, true, true, true, true, false, false, false, false, false, false, false, false, false, false, false, false, false, false, false, false, false, false, false, false, false, false] rfl rfl (any_of HT_.out (by kernel_rfl)) (fun _ _ _ h => h) (Or.inl ⟨by rfl, ?_⟩) ?_ ?_
       rotate_left
       ·intro w'
        go_simp
        with_reducible rfl
       rotate_left
       ·simp only [Act.put, List.setIfInBounds_toArray, List.set_cons_zero, List.set_cons_succ, i64_w, i32_w]
        rfl
       refine pure_ (i := 18) (N := some 64) (v := ?_) (a' := ?_) #[true, true, true, true, true, true, true, true, true, true, true, true, true, true, true, true, true, true, true, false, false, false, false, false, false, false, false, false, false, false, false, false, false, false, false, false, false, false, false, false] rfl rfl (any_of HT_.out (by kernel_rfl)) (fun _ _ _ h => h) (Or.inl ⟨by rfl, ?_⟩) ?_ ?_
       rotate_left
       ·intro w'
        go_simp
        with_reducible rfl
       rotate_left
       ·simp only [Act.put, List.setIfInBounds_toArray, List.set_cons_zero, List.set_cons_succ, i64_w, i32_w]
        rfl
       refine pure_ (i := 19) (N := some 65) (v := ?_) (a' := ?_) #[true, true, true, true, true, true, true, true, true, true, true, true, true, true, true, true, true, true, true, true, false, false, false, false, false, false, false, false, false, false, false, false, false, false, false, false, false, false, false, false] rfl rfl (any_of HT_.out (by kernel_rfl)) (fun _ _ _ h => h) (Or.inl ⟨by rfl, ?_⟩) ?_ ?_
       rotate_left
       ·intro w'
        go_simp
        with_reducible rfl
       rotate_left
       ·simp only [Act.put, List.setIfInBounds_toArray, List.set_cons_zero, List.set_cons_succ, i64_w, i32_w]
        rfl
       refine pure_ (i := 20) (N := some 66) (v := ?_) (a' := ?_) #[true, true, true, true, true, true, true, true, true, true, true, true, true, true, true, true, true, true, true, true, true, false, false, false, false, false, false, false, false, false, false, false, false, false, false, false, false, false, false, false] rfl rfl (any_of HT_.out (by kernel_rfl)) (fun _ _ _ h => h) (Or.inl ⟨by rfl, ?_⟩) ?_ ?_
       rotate_left
       ·intro w'
        go_simp
        with_reducible rfl
       rotate_left
       ·simp only [Act.put, List.setIfInBounds_toArray, List.set_cons_zero, List.set_cons_succ, i64_w, i32_w]
        rfl
       refine pure_ (i := 21) (N := some 67) (v := ?_) (a' := ?_) #[true, true, true, true, true, true, true, true, true, true, true, true, true, true, true, true, true, true, true, true, true, true, false, false, false, false, false, false, false, false, false, false, false, false, false, false, false, false, false, false] rfl rfl (any_of HT_.out (by kernel_rfl)) (fun _ _ _ h => h) (Or.inl ⟨by rfl, ?_⟩) ?_ ?_
       rotate_left
       ·intro w'
        go_simp
        with_reducible rfl
       rotate_left
       ·simp only [Act.put, List.setIfInBounds_toArray, List.set_cons_zero, List.set_cons_succ, i64_w, i32_w]
        rfl
       refine pure_ (i := 22) (N := some 68) (v := ?_) (a' := ?_) #[true, true, true, true, true, true, true, true, true, true, true, true, true, true, true, true, true, true, true, true, true, true, true, false, false, false, false, false, false, false, false, false, false, false, false, false, false, false, false, false] rfl rfl (any_of HT_.out (by kernel_rfl)) (fun _ _ _ h => h) (Or.inl ⟨by rfl, ?_⟩) ?_ ?_
       rotate_left
       ·intro w'
        go_simp
        with_reducible rfl
       rotate_left
       ·simp only [Act.put, List.setIfInBounds_toArray, List.set_cons_zero, List.set_cons_succ, i64_w, i32_w]
        rfl
       refine pure_ (i := 23) (N := some 69) (v := ?_) (a' := ?_) #[true, true, true, true, true, true, true, true, true, true, true, true, true, true, true, true, true, true, true, true, true, true, true, true, false, false, false, false, false, false, false, false, false, false, false, false, false, false, false, false] rfl rfl (any_of HT_.out (by kernel_rfl)) (fun _ _ _ h => h) (Or.inl ⟨by rfl, ?_⟩) ?_ ?_
       rotate_left
       ·intro w'
        go_simp
        with_reducible rfl
       rotate_left
       ·simp only [Act.put, List.setIfInBounds_toArray, List.set_cons_zero, List.set_cons_succ, i64_w, i32_w]
        rfl
       refine pure_ (i := 24) (N := some 70) (v := ?_) (a' := ?_) #[true, true, true, true, true, true, true, true, true, true, true, true, true, true, true, true, true, true, true, true, true, true, true, true, true, false, false, false, false, false, false, false, false, false, false, false, false, false, false, false] rfl rfl (any_of HT_.out (by kernel_rfl)) (fun _ _ _ h => h) (Or.inl ⟨by rfl, ?_⟩) ?_ ?_
       rotate_left
       ·intro w'
        go_simp
        with_reducible rfl
       rotate_left
       ·simp only [Act.put, List.setIfInBounds_toArray, List.set_cons_zero, List.set_cons_succ, i64_w, i32_w]
        rfl
       refine pure_ (i := 26) (N := some 72) (v := ?_) (a' := ?_) #[true, true, true, true, true, true, true, true, true, true, true, true, true, true, true, true, true, true, true, true, true, true, true, true, true, false, true, false, false, false, false, false, false, false, false, false, false, false, false, false] rfl rfl (any_of HT_.out (by kernel_rfl)) (fun _ _ _ h => h) (Or.inl ⟨by rfl, ?_⟩) ?_ ?_
       rotate_left
       ·intro w'
        go_simp
        with_reducible rfl
       rotate_left
       ·simp only [Act.put, List.setIfInBounds_toArray, List.set_cons_zero, List.set_cons_succ, i64_w, i32_w]
        rfl
       refine one_ (i := 25) (N := some 71) #[true, true, true, true, true, true, true, true, true, true, true, true, true, true, true, true, true, true, true, true, true, true, true, true, true, true, true, false, false, false, false, false, false, false, false, false, false, false, false, false] rfl rfl (one_of HT_.out (by kernel_rfl)) (by decide) (fun K hK => ?_)
       refine goes_ Tryd.func16 (by kernel_rfl) rfl #[.int .i64 t335] (by rfl) rfl rfl mA ?_
       with_reducible refine (quaerelaw0_Num.calls t335 t341 _ A16.out).mono ?_
       rintro e w' ⟨rfl, ⟨nd, rfl⟩⟩
       refine ⟨_, rfl, ?_⟩
       refine hK.out _ _ ⟨(blk_cell BK322.out 0).trans rfl, (blk_cell BK322.out 1).trans rfl, (blk_cell BK323.out 0).trans rfl, (blk_cell BK323.out 1).trans rfl⟩ (fun hHeld => ?_)
       clear hK K
       refine norm_ (a' := ?_) ?_ ?_
       rotate_left
       ·show Act.put _ (some 71) _ = _
        simp only [Act.put, List.setIfInBounds_toArray, List.set_cons_zero, List.set_cons_succ, i64_w, i32_w]
        rfl
       refine pure_ (i := 27) (N := some 73) (v := ?_) (a' := ?_) #[true, true, true, true, true, true, true, true, true, true, true, true, true, true, true, true, true, true, true, true, true, true, true, true, true, true, true, true, false, false, false, false, false, false, false, false, false, false, false, false] rfl rfl (any_of HT_.out (by kernel_rfl)) (fun _ _ _ h => h) (Or.inl ⟨by rfl, ?_⟩) ?_ ?_
       rotate_left
       ·intro w'
        go_simp
        with_reducible rfl
       rotate_left
       ·simp only [Act.put, List.setIfInBounds_toArray, List.set_cons_zero, List.set_cons_succ, i64_w, i32_w]
        rfl
       refine pure_ (i := 28) (N := some 74) (v := ?_) (a' := ?_) #[true, true, true, true, true, true, true, true, true, true, true, true, true, true, true, true, true, true, true, true, true, true, true, true, true, true, true, true, true, false, false, false, false, false, false, false, false, false, false, false] rfl rfl (any_of HT_.out (by kernel_rfl)) (fun _ _ _ h => h) (Or.inl ⟨by rfl, ?_⟩) ?_ ?_
       rotate_left
       ·intro w'
        go_simp
        with_reducible rfl
       rotate_left
       ·simp only [Act.put, List.setIfInBounds_toArray, List.set_cons_zero, List.set_cons_succ, i64_w, i32_w]
        rfl
       refine pure_ (i := 29) (N := some 75) (v := ?_) (a' := ?_) #[true, true, true, true, true, true, true, true, true, true, true, true, true, true, true, true, true, true, true, true, true, true, true, true, true, true, true, true, true, true, false, false, false, false, false, false, false, false, false, false] rfl rfl (any_of HT_.out (by kernel_rfl)) (fun _ _ _ h => h) (Or.inl ⟨by rfl, ?_⟩) ?_ ?_
       rotate_left
       ·intro w'
        go_simp
        with_reducible rfl
       rotate_left
       ·simp only [Act.put, List.setIfInBounds_toArray, List.set_cons_zero, List.set_cons_succ, i64_w, i32_w]
        rfl
       refine pure_ (i := 30) (N := some 76) (v := ?_) (a' := ?_) #[true, true, true, true, true, true, true, true, true, true, true, true, true, true, true, true, true, true, true, true, true, true, true, true, true, true, true, true, true, true, true, false, false, false, false, false, false, false, false, false] rfl rfl (any_of HT_.out (by kernel_rfl)) (fun _ _ _ h => h) (Or.inl ⟨by rfl, ?_⟩) ?_ ?_
       rotate_left
       ·intro w'
        go_simp
        with_reducible rfl
       rotate_left
       ·simp only [Act.put, List.setIfInBounds_toArray, List.set_cons_zero, List.set_cons_succ, i64_w, i32_w]
        rfl
       refine take_ (i := 31) (N := some 77) (v := ?_) (a' := ?_) #[true, true, true, true, true, true, true, true, true, true, true, true, true, true, true, true, true, true, true, true, true, true, true, true, true, true, true, true, true, true, true, true, false, false, false, false, false, false, false, false] rfl rfl (take_ofW HT_.out HW_.out (by kernel_rfl)) (fun _ _ _ h => h) (Or.inl ⟨by rfl, ?_⟩) hHeld ?_ ?_
       rotate_left
       ·rintro w' ⟨s0, s1, s2, s3⟩
        go_simp
        with_reducible rfl
       rotate_left
       ·simp only [Act.put, List.setIfInBounds_toArray, List.set_cons_zero, List.set_cons_succ, i64_w, i32_w]
        rfl
       refine take_ (i := 32) (N := some 78) (v := ?_) (a' := ?_) #[true, true, true, true, true, true, true, true, true, true, true, true, true, true, true, true, true, true, true, true, true, true, true, true, true, true, true, true, true, true, true, true, true, false, false, false, false, false, false, false] rfl rfl (take_ofW HT_.out HW_.out (by kernel_rfl)) (fun _ _ _ h => h) (Or.inl ⟨by rfl, ?_⟩) hHeld ?_ ?_
       rotate_left
       ·rintro w' ⟨s0, s1, s2, s3⟩
        go_simp
        with_reducible rfl
       rotate_left
       ·simp only [Act.put, List.setIfInBounds_toArray, List.set_cons_zero, List.set_cons_succ, i64_w, i32_w]
        rfl
       refine one_ (i := 33) (N := some 79) #[true, true, true, true, true, true, true, true, true, true, true, true, true, true, true, true, true, true, true, true, true, true, true, true, true, true, true, true, true, true, true, true, true, true, false, false, false, false, false, false] rfl rfl (one_of HT_.out (by kernel_rfl)) (by decide) (fun K hK => ?_)
       refine Kd.N_lit_step k25 _ 25 ?hg (N' := 79) ?hd (xs := ([(⟨a1_0, l1_1⟩ : S25), (⟨a2_0, l2_1⟩ : S25)] : List (S25))) (inner := [.bool a1_0, .slice A1_1 l1_1.length c1_1, .bool a2_0, .slice A2_1 l2_1.length c2_1]) (ok := (fun k_ => ((P1_1_ k_ ∨ P2_1_ k_) ∨ w.heap.size ≤ k_) ∧ some k_ ≠ (.slice Ao28 y324.length co28 : Value).ownBlock ∧ some k_ ≠ (v328 : Value).ownBlock ∧ k_ ≠ gb322 ∧ k_ ≠ gb323)) (okp := (fun k_ => ((P1_1_ k_ ∨ P2_1_ k_) ∨ w.heap.size ≤ k_) ∧ some k_ ≠ (.slice Ao28 y324.length co28 : Value).ownBlock ∧ some k_ ≠ (v328 : Value).ownBlock ∧ k_ ≠ gb322 ∧ k_ ≠ gb323)) ?hr ?hp (fun _ hk => hk) ((show ∀ k_, w42.heap.size ≤ k_ → (fun k_ => ((P1_1_ k_ ∨ P2_1_ k_) ∨ w.heap.size ≤ k_) ∧ some k_ ≠ (.slice Ao28 y324.length co28 : Value).ownBlock ∧ some k_ ≠ (v328 : Value).ownBlock ∧ k_ ≠ gb322 ∧ k_ ≠ gb323) k_ from fun k_ hk => ⟨(.inr (Nat.le_trans (below_size bS) hk)), Kd.fresh' (Kd.N_lt (nK HO326)) k_ hk, Kd.fresh' (Kd.N_lt (nK HO329)) k_ hk, Kd.freshB (g := gb322) (o := .cells #[.bool a1_0, .slice A1_1 l1_1.length c1_1] 25 (0, 0)) (bK BK322) k_ hk, Kd.freshB (g := gb323) (o := .cells #[.bool a2_0, .slice A2_1 l2_1.length c2_1] 25 (0, 0)) (bK BK323) k_ hk⟩) _ (Nat.le_refl _)) (Below.refl _ _) (Nat.le_refl _) (by simp) ?_; (case hd => rfl); (case hg => rfl); (case hr => first | (go_simp; done) | (go_simp; rfl)); (case hp => exact (Reps.c2 (show Kd.FK k25 _ _ (⟨a1_0, l1_1⟩ : S25) [.bool a1_0, .slice A1_1 l1_1.length c1_1] from (k25_mkF _ _ (⟨a1_0, l1_1⟩ : S25) (Kd.V_reads' (Kd.V_mono (ok' := (fun k_ => ((P1_1_ k_ ∨ P2_1_ k_) ∨ w.heap.size ≤ k_) ∧ some k_ ≠ (.slice Ao28 y324.length co28 : Value).ownBlock ∧ some k_ ≠ (v328 : Value).ownBlock ∧ k_ ≠ gb322 ∧ k_ ≠ gb323)) (HO1_1.out) (fun k_ hk => ⟨hk.1.1.1.1, ⟨hk.1.2, ⟨hk.2, ⟨hk.1.1.1.2, hk.1.1.2⟩⟩⟩⟩))).2.1 (Kd.V_F (e := 0) (base := 0) (Kd.V_mono (ok' := (fun k_ => ((P1_1_ k_ ∨ P2_1_ k_) ∨ w.heap.size ≤ k_) ∧ some k_ ≠ (.slice Ao28 y324.length co28 : Value).ownBlock ∧ some k_ ≠ (v328 : Value).ownBlock ∧ k_ ≠ gb322 ∧ k_ ≠ gb323)) (HO1_1.out) (fun k_ hk => ⟨hk.1.1.1.1, ⟨hk.1.2, ⟨hk.2, ⟨hk.1.1.1.2, hk.1.1.2⟩⟩⟩⟩))))) (Reps.c2 (show Kd.FK k25 _ _ (⟨a2_0, l2_1⟩ : S25) [.bool a2_0, .slice A2_1 l2_1.length c2_1] from (k25_mkF _ _ (⟨a2_0, l2_1⟩ : S25) (Kd.V_reads' (Kd.V_mono (ok' := (fun k_ => ((P1_1_ k_ ∨ P2_1_ k_) ∨ w.heap.size ≤ k_) ∧ some k_ ≠ (.slice Ao28 y324.length co28 : Value).ownBlock ∧ some k_ ≠ (v328 : Value).ownBlock ∧ k_ ≠ gb322 ∧ k_ ≠ gb323)) (HO2_1.out) (fun k_ hk => ⟨hk.1.1.1.1, ⟨hk.1.2, ⟨hk.2, ⟨hk.1.1.1.2, hk.1.1.2⟩⟩⟩⟩))).2.1 (Kd.V_F (e := 0) (base := 0) (Kd.V_mono (ok' := (fun k_ => ((P1_1_ k_ ∨ P2_1_ k_) ∨ w.heap.size ≤ k_) ∧ some k_ ≠ (.slice Ao28 y324.length co28 : Value).ownBlock ∧ some k_ ≠ (v328 : Value).ownBlock ∧ k_ ≠ gb322 ∧ k_ ≠ gb323)) (HO2_1.out) (fun k_ hk => ⟨hk.1.1.1.1, ⟨hk.1.2, ⟨hk.2, ⟨hk.1.1.1.2, hk.1.1.2⟩⟩⟩⟩))))) (Reps.none _ _))))
       intro v343 w43 ho44 hb hg_ hnew_
       clear hg_ hnew_
       (first | rw [← Ny342.out] at ho44 | (simp only [Int.reduceToNat] at ho44; rw [← Ny342.out] at ho44))
       have n0_ := Aside0.mk (Kd.V_elder' (by (with_reducible repeat (first | apply Kd.V_alloc | apply Kd.V_drewN | apply Kd.V_drew)); exact HO1_1.out) (Kd.N_base ho44) hb)
       have n1_ := Aside0.mk (Kd.V_elder' (by (with_reducible repeat (first | apply Kd.V_alloc | apply Kd.V_drewN | apply Kd.V_drew)); exact HO2_1.out) (Kd.N_base ho44) hb)
       have n2_ := Aside0.mk (Kd.N_elder' (nK HO326) (Kd.N_base ho44) hb)
       have n3_ := Aside0.mk (Kd.N_elder' (nK HO329) (Kd.N_base ho44) hb)
       have n4_ := Aside0.mk (Kd.N_lower ho44 (below_size bS))
       have n5_ := Aside0.mk (blk_below (g := gb322) (o := .cells #[.bool a1_0, .slice A1_1 l1_1.length c1_1] 25 (0, 0)) (bK BK322) hb)
       have n6_ := Aside0.mk (blk_below (g := gb323) (o := .cells #[.bool a2_0, .slice A2_1 l2_1.length c2_1] 25 (0, 0)) (bK BK323) hb)
       have n7_ := Aside0.mk (below_step bS hb)
       clear HO1_1 HO2_1 HO326 HO329 BK322 BK323 HB
       have HO1_1 := n0_
       have HO2_1 := n1_
       have HO326 := n2_
       have HO329 := n3_
       have HO344 := n4_
       have BK322 := n5_
       have BK323 := n6_
       have HB := n7_
       clear n0_ n1_ n2_ n3_ n4_ n5_ n6_ n7_ hb ho44
       obtain ⟨Ao45, co45, eo45⟩ := Kd.N_slice HO329.out
       (first | subst eo45 | (injection eo45 with f1_ f2_ f3_; have f4_ := f1_.symm; have f5_ := f3_.symm; clear f1_ f2_ f3_; subst f4_; subst f5_))
       obtain ⟨Ao46, co46, eo46⟩ := Kd.N_slice HO344.out
       (first | subst eo46 | (injection eo46 with f1_ f2_ f3_; have f4_ := f1_.symm; have f5_ := f3_.symm; clear f1_ f2_ f3_; subst f4_; subst f5_))
       refine hK.out _ _ ⟨(blk_cell BK322.out 0).trans rfl, (blk_cell BK322.out 1).trans rfl, (blk_cell BK323.out 0).trans rfl, (blk_cell BK323.out 1).trans rfl⟩ (fun hHeld => ?_)
       clear hK K
       refine norm_ (a' := ?_) ?_ ?_
       rotate_left
       ·show Act.put _ (some 79) _ = _
        simp only [Act.put, List.setIfInBounds_toArray, List.set_cons_zero, List.set_cons_succ, i64_w, i32_w]
        rfl
       refine one_ (i := 34) (N := some 80) #[true, true, true, true, true, true, true, true, true, true, true, true, true, true, true, true, true, true, true, true, true, true, true, true, true, true, true, true, true, true, true, true, true, true, true, false, false, false, false, false] rfl rfl (one_of HT_.out (by kernel_rfl)) (by decide) (fun K hK => ?_)
       refine goes_ Tryd.func17 (by kernel_rfl) rfl #[.slice Ao45 t327.length co45, .slice Ao46 y342.length co46] (by rfl) rfl rfl mA ?_
       with_reducible refine (quaerelaw0_SameLits.calls k _ _ t327 _ _ y342 true _ ?side1 ?side2 ?side3 ?side4 A18.out).mono ?_
       (case side1 => exact cK ((Kd.N_reads' HO329.out).2.2))
       (case side2 => exact (Kd.N_reads' HO329.out).2.1)
       (case side3 => exact cK ((Kd.N_reads' HO344.out).2.2))
       (case side4 => exact (Kd.N_reads' HO344.out).2.1)
       rintro e w' ⟨rfl, ⟨nd, rfl⟩⟩
       refine ⟨_, rfl, ?_⟩
       refine hK.out _ _ ⟨(blk_cell BK322.out 0).trans rfl, (blk_cell BK322.out 1).trans rfl, (blk_cell BK323.out 0).trans rfl, (blk_cell BK323.out 1).trans rfl⟩ (fun hHeld => ?_)
       clear hK K
       refine norm_ (a' := ?_) ?_ ?_
       rotate_left
       ·show Act.put _ (some 80) _ = _
        simp only [Act.put, List.setIfInBounds_toArray, List.set_cons_zero, List.set_cons_succ, i64_w, i32_w]
        rfl
       refine pure_ (i := 35) (N := some 81) (v := ?_) (a' := ?_) #[true, true, true, true, true, true, true, true, true, true, true, true, true, true, true, true, true, true, true, true, true, true, true, true, true, true, true, true, true, true, true, true, true, true, true, true, false, false, false, false] rfl rfl (any_of HT_.out (by kernel_rfl)) (fun _ _ _ h => h) (Or.inl ⟨by rfl, ?_⟩) ?_ ?_
       rotate_left
       ·intro w'
        go_simp
        with_reducible rfl
       rotate_left
       ·simp only [Act.put, List.setIfInBounds_toArray, List.set_cons_zero, List.set_cons_succ, i64_w, i32_w]
        rfl
       refine pure_ (i := 36) (N := some 82) (v := ?_) (a' := ?_) #[true, true, true, true, true, true, true, true, true, true, true, true, true, true, true, true, true, true, true, true, true, true, true, true, true, true, true, true, true, true, true, true, true, true, true, true, true, false, false, false] rfl rfl (any_of HT_.out (by kernel_rfl)) (fun _ _ _ h => h) (Or.inl ⟨by rfl, ?_⟩) ?_ ?_
       rotate_left
       ·intro w'
        go_simp
        with_reducible rfl
       rotate_left
       ·simp only [Act.put, List.setIfInBounds_toArray, List.set_cons_zero, List.set_cons_succ, i64_w, i32_w]
        rfl
       refine one_ (i := 37) (N := some 83) #[true, true, true, true, true, true, true, true, true, true, true, true, true, true, true, true, true, true, true, true, true, true, true, true, true, true, true, true, true, true, true, true, true, true, true, true, true, true, false, false] rfl rfl (one_of HT_.out (by kernel_rfl)) (by decide) (fun K hK => ?_)
       refine goes_ Tryd.func18 (by kernel_rfl) rfl #[] (by rfl) rfl rfl mA ?_
       with_reducible refine (quaerelaw7_awake.calls (hG := gK) k  t346 _ A20.out).mono ?_
       rintro e w47 ⟨rfl, hb⟩
       refine ⟨_, rfl, ?_⟩
       have n0_ := Aside0.mk (Kd.V_below (by (with_reducible repeat (first | apply Kd.V_alloc | apply Kd.V_drewN | apply Kd.V_drew)); exact HO1_1.out) hb)
       have n1_ := Aside0.mk (Kd.V_below (by (with_reducible repeat (first | apply Kd.V_alloc | apply Kd.V_drewN | apply Kd.V_drew)); exact HO2_1.out) hb)
       have n2_ := Aside0.mk (Kd.N_below (nK HO326) hb)
       have n3_ := Aside0.mk (Kd.N_below (nK HO329) hb)
       have n4_ := Aside0.mk (Kd.N_below (nK HO344) hb)
       have n5_ := Aside0.mk (blk_below (g := gb322) (o := .cells #[.bool a1_0, .slice A1_1 l1_1.length c1_1] 25 (0, 0)) (bK BK322) hb)
       have n6_ := Aside0.mk (blk_below (g := gb323) (o := .cells #[.bool a2_0, .slice A2_1 l2_1.length c2_1] 25 (0, 0)) (bK BK323) hb)
       have n7_ := Aside0.mk (below_step bS hb)
       clear HO1_1 HO2_1 HO326 HO329 HO344 BK322 BK323 HB
       have HO1_1 := n0_
       have HO2_1 := n1_
       have HO326 := n2_
       have HO329 := n3_
       have HO344 := n4_
       have BK322 := n5_
       have BK323 := n6_
       have HB := n7_
       clear n0_ n1_ n2_ n3_ n4_ n5_ n6_ n7_
       (try clear hb)
       (try clear hb2)
       (try clear hk)
       (try clear hi)
       refine hK.out _ _ ⟨(blk_cell BK322.out 0).trans rfl, (blk_cell BK322.out 1).trans rfl, (blk_cell BK323.out 0).trans rfl, (blk_cell BK323.out 1).trans rfl⟩ (fun hHeld => ?_)
       clear hK K
       refine norm_ (a' := ?_) ?_ ?_
       rotate_left
       ·show Act.put _ (some 83) _ = _
        simp only [Act.put, List.setIfInBounds_toArray, List.set_cons_zero, List.set_cons_succ, i64_w, i32_w]
        rfl
       refine pure_ (i := 38) (N := some 84) (v := ?_) (a' := ?_) #[true, true, true, true, true, true, true, true, true, true, true, true, true, true, true, true, true, true, true, true, true, true, true, true, true, true, true, true, true, true, true, true, true, true, true, true, true, true, true, false] rfl rfl (any_of HT_.out (by kernel_rfl)) (fun _ _ _ h => h) (Or.inl ⟨by rfl, ?_⟩) ?_ ?_
       rotate_left
       ·intro w'
        go_simp
        with_reducible rfl
       rotate_left
       ·simp only [Act.put, List.setIfInBounds_toArray, List.set_cons_zero, List.set_cons_succ, i64_w, i32_w]
        rfl
       refine pure_ (i := 39) (N := some 6) (v := ?_) (a' := ?_) #[true, true, true, true, true, true, true, true, true, true, true, true, true, true, true, true, true, true, true, true, true, true, true, true, true, true, true, true, true, true, true, true, true, true, true, true, true, true, true, true] rfl rfl (any_of HT_.out (by kernel_rfl)) (fun _ _ _ h => h) (Or.inl ⟨by rfl, ?_⟩) ?_ ?_
       rotate_left
       ·intro w'
        go_simp
        with_reducible rfl
       rotate_left
       ·simp only [Act.put, List.setIfInBounds_toArray, List.set_cons_zero, List.set_cons_succ, i64_w, i32_w]
        rfl
       refine done_ (done_of HT_.out (by kernel_rfl)) ?_
       try go_wp2
       go_ret
       exact ⟨eK, bS⟩
      ·replace c19 := Bool.eq_false_iff.mpr c19
       subst c19
       have H1 : (none) = some r := by rw [if_neg (show ¬ (false = true) by decide)] at H; exact H
       clear H
       have H := H1
       clear H1
       exact absurd H (by simp)
     ·rw [if_neg c17] at H
      exact absurd H (by simp)
    ·rw [if_neg c15] at H
     exact absurd H (by simp)
   ·rw [if_neg c14] at H
    exact absurd H (by simp)
  ·rw [if_neg c12] at H
   exact absurd H (by simp)
 ·rw [if_neg c11] at H
  exact absurd H (by simp)

end Go.Proofs.YtfnemhkiopgeaaaDoor.PK
