-- written by a program of this session's (wip/tools/pp.py), after the kit's print
import Derived.Test.YtfnemhkiopgeaaaDoorPKx0
import Derived.Test.YtfnemhkiopgeaaaDoorPKx4
import Derived.Test.YtfnemhkiopgeaaaDoorPKx5
import Derived.Test.YtfnemhkiopgeaaaDoorPKx13
import Derived.Test.YtfnemhkiopgeaaaDoorPKx14
namespace Go.Proofs.YtfnemhkiopgeaaaDoor.PK
open Go.RowKit Go.Proofs.YtfnemhkiopgeaaaDoorW.PrintWords Go.Proofs.YtfnemhkiopgeaaaDoorW.PrintLast Go.Proofs.YtfnemhkiopgeaaaDoorW.PrintMore
attribute [local go_sem] jump_ret max2_int min2_int max_two min_two max_three min_three max_four min_four   -- for this text's walks alone
set_option linter.unusedVariables false
set_option linter.unusedSimpArgs false

/-! ### quaerelaw7_awake: function 18 -/
def quaerelaw7_awake.f (k : Nat)  : Option (Bool) := (some (([5, (-1)] : List Int) : List Int)).bind fun y270 => ((some (([5, (-1)] : List Int) : List Int)).bind fun y274 => ((some (([5, 3, (-1)] : List Int) : List Int)).bind fun y278 => ((quaerelaw7_words.f).bind fun t282 => ((lit_Weight.f k t282 false y278).bind fun bt285 => ((quaerelaw7_words.f).bind fun t287 => ((lit_Compare.f k t287 true y274 false y270).bind fun bt290 => ((quaerelaw7_words.f).bind fun t292 => ((lit_Tops.f k t292 (([(⟨false, y270⟩ : S25), (⟨true, y274⟩ : S25), (⟨false, y278⟩ : S25)] : List (S25)))).bind fun bt298 => ((quaerelaw7_words.f).bind fun t302 => ((lit_Weight.f k t302 false (([3, 1] : List Int))).bind fun bt308 => (if bt285.1 = 3 then ((quaerelaw0_Num.f bt285.2).bind fun t310 => (if t310 = 0 then (if bt290.1 = 2 then ((quaerelaw0_Num.f bt290.2).bind fun t311 => (if t311 = 0 then ((quaerelaw0_SameInts.f k bt298.1 (([2] : List Int))).bind fun t315 => (if t315 = true then ((quaerelaw0_Num.f bt298.2).bind fun t316 => (if t316 = 0 then ((quaerelaw0_Num.f bt308.2).bind fun t317 => (if t317 = 700 then ((quaerelaw7_words.f).bind fun t318 => ((lit_May.f k t318 false y270).bind fun t321 => (some t321))) else (none))) else (none))) else (none))) else (none))) else (none)) else (none))) else (none))))))))))))
theorem quaerelaw7_awake.mono : ∀ k, LeO (quaerelaw7_awake.f k ) (quaerelaw7_awake.f (k + 1) ) := by
 intro  k
 unfold quaerelaw7_awake.f
 repeat' first
   | (with_reducible exact lit_Compare.mono _ _ _ _ _ _)
   | (with_reducible exact lit_May.mono _ _ _ _)
   | (with_reducible exact lit_Tops.mono _ _ _)
   | (with_reducible exact lit_Weight.mono _ _ _ _)
   | (with_reducible exact quaerelaw0_SameInts.mono _ _ _)
   | (with_reducible exact LeO.refl _)
   | (with_reducible exact LeO.none _)
   | (with_reducible refine LeO.ite ?_ ?_)
   | (with_reducible refine LeO.bind ?_ (fun _ => ?_))
   | exact lit_Compare.mono _ _ _ _ _ _
   | exact lit_May.mono _ _ _ _
   | exact lit_Tops.mono _ _ _
   | exact lit_Weight.mono _ _ _ _
   | exact quaerelaw0_SameInts.mono _ _ _
   | exact LeO.none _
   | refine LeO.ite ?_ ?_
   | refine LeO.bind ?_ (fun _ => ?_)
def quaerelaw7_awake.T4 : Bool × List (List Nat × List Nat) := (true, [([], []), ([], []), ([0, 1, 0], [0, 1]), ([2], [2]), ([3], [3]), ([3], [3]), ([4, 2, 0, 1, 2, 3, 4], [4]), ([5, 6, 0, 1, 2, 3, 4, 5, 6], [5])])
def quaerelaw7_awake.B4 : List Nat := [0, 0, 3, 7, 15, 15, 31, 127]
theorem quaerelaw7_awake.tab4 : rtab .any (opsOf Tryd.f18 4) = quaerelaw7_awake.T4 := by kernel_rfl
theorem quaerelaw7_awake.bits4 : waitsOk quaerelaw7_awake.T4.2 quaerelaw7_awake.B4 = true := by kernel_rfl
def quaerelaw7_awake.T5 : Bool × List (List Nat × List Nat) := (true, [([], []), ([], []), ([], []), ([0, 1, 2, 0], [0, 1, 2]), ([3], [3]), ([4], [4]), ([4], [4]), ([5, 3, 0, 1, 2, 3, 4, 5], [5]), ([6, 7, 0, 1, 2, 3, 4, 5, 6, 7], [6])])
def quaerelaw7_awake.B5 : List Nat := [0, 0, 0, 7, 15, 31, 31, 63, 255]
theorem quaerelaw7_awake.tab5 : rtab .any (opsOf Tryd.f18 5) = quaerelaw7_awake.T5 := by kernel_rfl
theorem quaerelaw7_awake.bits5 : waitsOk quaerelaw7_awake.T5.2 quaerelaw7_awake.B5 = true := by kernel_rfl
def quaerelaw7_awake.T6 : Bool × List (List Nat × List Nat) := (true, [([], []), ([], []), ([], []), ([], []), ([1, 2, 3], [1, 2, 3]), ([0, 4, 0], [0, 4]), ([5], [5]), ([6], [6]), ([6], [6]), ([7, 5, 0, 1, 2, 3, 4, 5, 6, 7], [7]), ([8, 9, 0, 1, 2, 3, 4, 5, 6, 7, 8, 9], [8])])
def quaerelaw7_awake.B6 : List Nat := [0, 0, 0, 0, 14, 31, 63, 127, 127, 255, 1023]
theorem quaerelaw7_awake.tab6 : rtab .any (opsOf Tryd.f18 6) = quaerelaw7_awake.T6 := by kernel_rfl
theorem quaerelaw7_awake.bits6 : waitsOk quaerelaw7_awake.T6.2 quaerelaw7_awake.B6 = true := by kernel_rfl
def quaerelaw7_awake.T8 : Bool × List (List Nat × List Nat) := (true, [([], []), ([0], [0]), ([1], [1]), ([2], [2]), ([3, 2, 2], [2, 3]), ([4, 2], [2, 4]), ([2, 5], [2, 5]), ([6, 4], [6]), ([7], [7]), ([8, 7], [7, 8]), ([7, 9], [7, 9]), ([10, 7], [10]), ([11], [11]), ([12, 11, 11], [11, 12]), ([13, 11], [11, 13]), ([11, 14], [11, 14]), ([15, 13], [15]), ([16], [16]), ([16], [16]), ([17, 18, 16, 16], [16, 17, 18]), ([16, 19], [16, 19]), ([20, 19], [20]), ([21], [21]), ([22, 21, 21], [21, 22]), ([23, 21], [21, 23]), ([21, 24], [21, 24]), ([25, 23], [25]), ([26], [26]), ([27, 26, 26], [26, 27]), ([28, 26], [26, 28]), ([26, 29], [26, 29]), ([30, 28], [30]), ([31, 31], [31]), ([31], [31]), ([32, 33, 32, 31], [31, 32, 33]), ([31, 34], [31, 34]), ([35, 34, 0, 1, 2, 3, 4, 5, 6, 7, 8, 9, 10, 11, 12, 13, 14, 15, 16, 17, 18, 19, 20, 21, 22, 23, 24, 25, 26, 27, 28, 29, 30, 31, 32, 33, 34, 35], [35])])
def quaerelaw7_awake.B8 : List Nat := [0, 1, 3, 7, 15, 31, 63, 127, 255, 511, 1023, 2047, 4095, 8191, 16383, 32767, 65535, 131071, 131071, 524287, 1048575, 2097151, 4194303, 8388607, 16777215, 33554431, 67108863, 134217727, 268435455, 536870911, 1073741823, 2147483647, 4294967295, 4294967295, 17179869183, 34359738367, 68719476735]
theorem quaerelaw7_awake.tab8 : rtab .any (opsOf Tryd.f18 8) = quaerelaw7_awake.T8 := by kernel_rfl
theorem quaerelaw7_awake.bits8 : waitsOk quaerelaw7_awake.T8.2 quaerelaw7_awake.B8 = true := by kernel_rfl
set_option maxHeartbeats 8000000 in
set_option maxRecDepth 100000 in
theorem quaerelaw7_awake.calls (k : Nat)  (r : Bool) (w : World) (h : quaerelaw7_awake.f k  = some r) (hG : Glob w) :
  Calls Tryd.prog 18 #[] w fun e w' => e = .returned (.bool r) ∧ Below w.heap.size w w' := by
 have hu25 := Tryd.underlying25
 have HB := Aside0.mk (Below.refl w.heap.size w)
 have H : ((some (([5, (-1)] : List Int) : List Int)).bind fun y270 => ((some (([5, (-1)] : List Int) : List Int)).bind fun y274 => ((some (([5, 3, (-1)] : List Int) : List Int)).bind fun y278 => ((quaerelaw7_words.f).bind fun t282 => ((lit_Weight.f k t282 false y278).bind fun bt285 => ((quaerelaw7_words.f).bind fun t287 => ((lit_Compare.f k t287 true y274 false y270).bind fun bt290 => ((quaerelaw7_words.f).bind fun t292 => ((lit_Tops.f k t292 (([(⟨false, y270⟩ : S25), (⟨true, y274⟩ : S25), (⟨false, y278⟩ : S25)] : List (S25)))).bind fun bt298 => ((quaerelaw7_words.f).bind fun t302 => ((lit_Weight.f k t302 false (([3, 1] : List Int))).bind fun bt308 => (if bt285.1 = 3 then ((quaerelaw0_Num.f bt285.2).bind fun t310 => (if t310 = 0 then (if bt290.1 = 2 then ((quaerelaw0_Num.f bt290.2).bind fun t311 => (if t311 = 0 then ((quaerelaw0_SameInts.f k bt298.1 (([2] : List Int))).bind fun t315 => (if t315 = true then ((quaerelaw0_Num.f bt298.2).bind fun t316 => (if t316 = 0 then ((quaerelaw0_Num.f bt308.2).bind fun t317 => (if t317 = 700 then ((quaerelaw7_words.f).bind fun t318 => ((lit_May.f k t318 false y270).bind fun t321 => (some t321))) else (none))) else (none))) else (none))) else (none))) else (none)) else (none))) else (none))))))))))))) = some r := h
 clear h
 obtain ⟨y270, hy270⟩ : ∃ y_ : List Int, y_ = (([5, (-1)] : List Int)) := ⟨_, rfl⟩
 replace H : ((some (([5, (-1)] : List Int) : List Int)).bind fun y274 => ((some (([5, 3, (-1)] : List Int) : List Int)).bind fun y278 => ((quaerelaw7_words.f).bind fun t282 => ((lit_Weight.f k t282 false y278).bind fun bt285 => ((quaerelaw7_words.f).bind fun t287 => ((lit_Compare.f k t287 true y274 false y270).bind fun bt290 => ((quaerelaw7_words.f).bind fun t292 => ((lit_Tops.f k t292 (([(⟨false, y270⟩ : S25), (⟨true, y274⟩ : S25), (⟨false, y278⟩ : S25)] : List (S25)))).bind fun bt298 => ((quaerelaw7_words.f).bind fun t302 => ((lit_Weight.f k t302 false (([3, 1] : List Int))).bind fun bt308 => (if bt285.1 = 3 then ((quaerelaw0_Num.f bt285.2).bind fun t310 => (if t310 = 0 then (if bt290.1 = 2 then ((quaerelaw0_Num.f bt290.2).bind fun t311 => (if t311 = 0 then ((quaerelaw0_SameInts.f k bt298.1 (([2] : List Int))).bind fun t315 => (if t315 = true then ((quaerelaw0_Num.f bt298.2).bind fun t316 => (if t316 = 0 then ((quaerelaw0_Num.f bt308.2).bind fun t317 => (if t317 = 700 then ((quaerelaw7_words.f).bind fun t318 => ((lit_May.f k t318 false y270).bind fun t321 => (some t321))) else (none))) else (none))) else (none))) else (none))) else (none)) else (none))) else (none)))))))))))) = some r := by first | (rw [hy270]; with_reducible exact H) | (have H2_ := (Option.bind_some _ _).symm.trans H; rw [hy270]; with_reducible exact H2_) | (have H2_ := (Option.bind_some _ _).symm.trans H; with_reducible exact H2_) | with_reducible exact H | (rw [hy270]; exact H) | exact H
 have Ny270 := Aside0.mk hy270
 clear hy270
 obtain ⟨y274, hy274⟩ : ∃ y_ : List Int, y_ = (([5, (-1)] : List Int)) := ⟨_, rfl⟩
 replace H : ((some (([5, 3, (-1)] : List Int) : List Int)).bind fun y278 => ((quaerelaw7_words.f).bind fun t282 => ((lit_Weight.f k t282 false y278).bind fun bt285 => ((quaerelaw7_words.f).bind fun t287 => ((lit_Compare.f k t287 true y274 false y270).bind fun bt290 => ((quaerelaw7_words.f).bind fun t292 => ((lit_Tops.f k t292 (([(⟨false, y270⟩ : S25), (⟨true, y274⟩ : S25), (⟨false, y278⟩ : S25)] : List (S25)))).bind fun bt298 => ((quaerelaw7_words.f).bind fun t302 => ((lit_Weight.f k t302 false (([3, 1] : List Int))).bind fun bt308 => (if bt285.1 = 3 then ((quaerelaw0_Num.f bt285.2).bind fun t310 => (if t310 = 0 then (if bt290.1 = 2 then ((quaerelaw0_Num.f bt290.2).bind fun t311 => (if t311 = 0 then ((quaerelaw0_SameInts.f k bt298.1 (([2] : List Int))).bind fun t315 => (if t315 = true then ((quaerelaw0_Num.f bt298.2).bind fun t316 => (if t316 = 0 then ((quaerelaw0_Num.f bt308.2).bind fun t317 => (if t317 = 700 then ((quaerelaw7_words.f).bind fun t318 => ((lit_May.f k t318 false y270).bind fun t321 => (some t321))) else (none))) else (none))) else (none))) else (none))) else (none)) else (none))) else (none))))))))))) = some r := by first | (rw [hy274]; with_reducible exact H) | (have H2_ := (Option.bind_some _ _).symm.trans H; rw [hy274]; with_reducible exact H2_) | (have H2_ := (Option.bind_some _ _).symm.trans H; with_reducible exact H2_) | with_reducible exact H | (rw [hy274]; exact H) | exact H
 have Ny274 := Aside0.mk hy274
 clear hy274
 obtain ⟨y278, hy278⟩ : ∃ y_ : List Int, y_ = (([5, 3, (-1)] : List Int)) := ⟨_, rfl⟩
 replace H : ((quaerelaw7_words.f).bind fun t282 => ((lit_Weight.f k t282 false y278).bind fun bt285 => ((quaerelaw7_words.f).bind fun t287 => ((lit_Compare.f k t287 true y274 false y270).bind fun bt290 => ((quaerelaw7_words.f).bind fun t292 => ((lit_Tops.f k t292 (([(⟨false, y270⟩ : S25), (⟨true, y274⟩ : S25), (⟨false, y278⟩ : S25)] : List (S25)))).bind fun bt298 => ((quaerelaw7_words.f).bind fun t302 => ((lit_Weight.f k t302 false (([3, 1] : List Int))).bind fun bt308 => (if bt285.1 = 3 then ((quaerelaw0_Num.f bt285.2).bind fun t310 => (if t310 = 0 then (if bt290.1 = 2 then ((quaerelaw0_Num.f bt290.2).bind fun t311 => (if t311 = 0 then ((quaerelaw0_SameInts.f k bt298.1 (([2] : List Int))).bind fun t315 => (if t315 = true then ((quaerelaw0_Num.f bt298.2).bind fun t316 => (if t316 = 0 then ((quaerelaw0_Num.f bt308.2).bind fun t317 => (if t317 = 700 then ((quaerelaw7_words.f).bind fun t318 => ((lit_May.f k t318 false y270).bind fun t321 => (some t321))) else (none))) else (none))) else (none))) else (none))) else (none)) else (none))) else (none)))))))))) = some r := by first | (rw [hy278]; with_reducible exact H) | (have H2_ := (Option.bind_some _ _).symm.trans H; rw [hy278]; with_reducible exact H2_) | (have H2_ := (Option.bind_some _ _).symm.trans H; with_reducible exact H2_) | with_reducible exact H | (rw [hy278]; exact H) | exact H
 have Ny278 := Aside0.mk hy278
 clear hy278
 replace H := Option.bind_eq_some_iff.mp H
 obtain ⟨t282, A10, H⟩ := H
 replace H : ((lit_Weight.f k t282 false y278).bind fun bt285 => ((quaerelaw7_words.f).bind fun t287 => ((lit_Compare.f k t287 true y274 false y270).bind fun bt290 => ((quaerelaw7_words.f).bind fun t292 => ((lit_Tops.f k t292 (([(⟨false, y270⟩ : S25), (⟨true, y274⟩ : S25), (⟨false, y278⟩ : S25)] : List (S25)))).bind fun bt298 => ((quaerelaw7_words.f).bind fun t302 => ((lit_Weight.f k t302 false (([3, 1] : List Int))).bind fun bt308 => (if bt285.1 = 3 then ((quaerelaw0_Num.f bt285.2).bind fun t310 => (if t310 = 0 then (if bt290.1 = 2 then ((quaerelaw0_Num.f bt290.2).bind fun t311 => (if t311 = 0 then ((quaerelaw0_SameInts.f k bt298.1 (([2] : List Int))).bind fun t315 => (if t315 = true then ((quaerelaw0_Num.f bt298.2).bind fun t316 => (if t316 = 0 then ((quaerelaw0_Num.f bt308.2).bind fun t317 => (if t317 = 700 then ((quaerelaw7_words.f).bind fun t318 => ((lit_May.f k t318 false y270).bind fun t321 => (some t321))) else (none))) else (none))) else (none))) else (none))) else (none)) else (none))) else (none))))))))) = some r := H
 have A1 := Aside0.mk A10
 clear A10
 replace H := Option.bind_eq_some_iff.mp H
 obtain ⟨⟨t285, t286⟩, A20, H⟩ := H
 replace H : ((quaerelaw7_words.f).bind fun t287 => ((lit_Compare.f k t287 true y274 false y270).bind fun bt290 => ((quaerelaw7_words.f).bind fun t292 => ((lit_Tops.f k t292 (([(⟨false, y270⟩ : S25), (⟨true, y274⟩ : S25), (⟨false, y278⟩ : S25)] : List (S25)))).bind fun bt298 => ((quaerelaw7_words.f).bind fun t302 => ((lit_Weight.f k t302 false (([3, 1] : List Int))).bind fun bt308 => (if t285 = 3 then ((quaerelaw0_Num.f t286).bind fun t310 => (if t310 = 0 then (if bt290.1 = 2 then ((quaerelaw0_Num.f bt290.2).bind fun t311 => (if t311 = 0 then ((quaerelaw0_SameInts.f k bt298.1 (([2] : List Int))).bind fun t315 => (if t315 = true then ((quaerelaw0_Num.f bt298.2).bind fun t316 => (if t316 = 0 then ((quaerelaw0_Num.f bt308.2).bind fun t317 => (if t317 = 700 then ((quaerelaw7_words.f).bind fun t318 => ((lit_May.f k t318 false y270).bind fun t321 => (some t321))) else (none))) else (none))) else (none))) else (none))) else (none)) else (none))) else (none)))))))) = some r := H
 have A2 := Aside0.mk A20
 clear A20
 replace H := Option.bind_eq_some_iff.mp H
 obtain ⟨t287, A30, H⟩ := H
 replace H : ((lit_Compare.f k t287 true y274 false y270).bind fun bt290 => ((quaerelaw7_words.f).bind fun t292 => ((lit_Tops.f k t292 (([(⟨false, y270⟩ : S25), (⟨true, y274⟩ : S25), (⟨false, y278⟩ : S25)] : List (S25)))).bind fun bt298 => ((quaerelaw7_words.f).bind fun t302 => ((lit_Weight.f k t302 false (([3, 1] : List Int))).bind fun bt308 => (if t285 = 3 then ((quaerelaw0_Num.f t286).bind fun t310 => (if t310 = 0 then (if bt290.1 = 2 then ((quaerelaw0_Num.f bt290.2).bind fun t311 => (if t311 = 0 then ((quaerelaw0_SameInts.f k bt298.1 (([2] : List Int))).bind fun t315 => (if t315 = true then ((quaerelaw0_Num.f bt298.2).bind fun t316 => (if t316 = 0 then ((quaerelaw0_Num.f bt308.2).bind fun t317 => (if t317 = 700 then ((quaerelaw7_words.f).bind fun t318 => ((lit_May.f k t318 false y270).bind fun t321 => (some t321))) else (none))) else (none))) else (none))) else (none))) else (none)) else (none))) else (none))))))) = some r := H
 have A3 := Aside0.mk A30
 clear A30
 replace H := Option.bind_eq_some_iff.mp H
 obtain ⟨⟨t290, t291⟩, A40, H⟩ := H
 replace H : ((quaerelaw7_words.f).bind fun t292 => ((lit_Tops.f k t292 (([(⟨false, y270⟩ : S25), (⟨true, y274⟩ : S25), (⟨false, y278⟩ : S25)] : List (S25)))).bind fun bt298 => ((quaerelaw7_words.f).bind fun t302 => ((lit_Weight.f k t302 false (([3, 1] : List Int))).bind fun bt308 => (if t285 = 3 then ((quaerelaw0_Num.f t286).bind fun t310 => (if t310 = 0 then (if t290 = 2 then ((quaerelaw0_Num.f t291).bind fun t311 => (if t311 = 0 then ((quaerelaw0_SameInts.f k bt298.1 (([2] : List Int))).bind fun t315 => (if t315 = true then ((quaerelaw0_Num.f bt298.2).bind fun t316 => (if t316 = 0 then ((quaerelaw0_Num.f bt308.2).bind fun t317 => (if t317 = 700 then ((quaerelaw7_words.f).bind fun t318 => ((lit_May.f k t318 false y270).bind fun t321 => (some t321))) else (none))) else (none))) else (none))) else (none))) else (none)) else (none))) else (none)))))) = some r := H
 have A4 := Aside0.mk A40
 clear A40
 replace H := Option.bind_eq_some_iff.mp H
 obtain ⟨t292, A50, H⟩ := H
 replace H : ((lit_Tops.f k t292 (([(⟨false, y270⟩ : S25), (⟨true, y274⟩ : S25), (⟨false, y278⟩ : S25)] : List (S25)))).bind fun bt298 => ((quaerelaw7_words.f).bind fun t302 => ((lit_Weight.f k t302 false (([3, 1] : List Int))).bind fun bt308 => (if t285 = 3 then ((quaerelaw0_Num.f t286).bind fun t310 => (if t310 = 0 then (if t290 = 2 then ((quaerelaw0_Num.f t291).bind fun t311 => (if t311 = 0 then ((quaerelaw0_SameInts.f k bt298.1 (([2] : List Int))).bind fun t315 => (if t315 = true then ((quaerelaw0_Num.f bt298.2).bind fun t316 => (if t316 = 0 then ((quaerelaw0_Num.f bt308.2).bind fun t317 => (if t317 = 700 then ((quaerelaw7_words.f).bind fun t318 => ((lit_May.f k t318 false y270).bind fun t321 => (some t321))) else (none))) else (none))) else (none))) else (none))) else (none)) else (none))) else (none))))) = some r := H
 have A5 := Aside0.mk A50
 clear A50
 obtain ⟨y295, hy295⟩ : ∃ y_ : List (S25), y_ = (([(⟨false, y270⟩ : S25), (⟨true, y274⟩ : S25), (⟨false, y278⟩ : S25)] : List (S25))) := ⟨_, rfl⟩
 replace H : ((lit_Tops.f k t292 y295).bind fun bt298 => ((quaerelaw7_words.f).bind fun t302 => ((lit_Weight.f k t302 false (([3, 1] : List Int))).bind fun bt308 => (if t285 = 3 then ((quaerelaw0_Num.f t286).bind fun t310 => (if t310 = 0 then (if t290 = 2 then ((quaerelaw0_Num.f t291).bind fun t311 => (if t311 = 0 then ((quaerelaw0_SameInts.f k bt298.1 (([2] : List Int))).bind fun t315 => (if t315 = true then ((quaerelaw0_Num.f bt298.2).bind fun t316 => (if t316 = 0 then ((quaerelaw0_Num.f bt308.2).bind fun t317 => (if t317 = 700 then ((quaerelaw7_words.f).bind fun t318 => ((lit_May.f k t318 false y270).bind fun t321 => (some t321))) else (none))) else (none))) else (none))) else (none))) else (none)) else (none))) else (none))))) = some r := by first | (rw [hy295]; with_reducible exact H) | (have H2_ := (Option.bind_some _ _).symm.trans H; rw [hy295]; with_reducible exact H2_) | (have H2_ := (Option.bind_some _ _).symm.trans H; with_reducible exact H2_) | with_reducible exact H | (rw [hy295]; exact H) | exact H
 have Ny295 := Aside0.mk hy295
 clear hy295
 replace H := Option.bind_eq_some_iff.mp H
 obtain ⟨⟨t298, t299⟩, A60, H⟩ := H
 replace H : ((quaerelaw7_words.f).bind fun t302 => ((lit_Weight.f k t302 false (([3, 1] : List Int))).bind fun bt308 => (if t285 = 3 then ((quaerelaw0_Num.f t286).bind fun t310 => (if t310 = 0 then (if t290 = 2 then ((quaerelaw0_Num.f t291).bind fun t311 => (if t311 = 0 then ((quaerelaw0_SameInts.f k t298 (([2] : List Int))).bind fun t315 => (if t315 = true then ((quaerelaw0_Num.f t299).bind fun t316 => (if t316 = 0 then ((quaerelaw0_Num.f bt308.2).bind fun t317 => (if t317 = 700 then ((quaerelaw7_words.f).bind fun t318 => ((lit_May.f k t318 false y270).bind fun t321 => (some t321))) else (none))) else (none))) else (none))) else (none))) else (none)) else (none))) else (none)))) = some r := H
 have A6 := Aside0.mk A60
 clear A60
 replace H := Option.bind_eq_some_iff.mp H
 obtain ⟨t302, A70, H⟩ := H
 replace H : ((lit_Weight.f k t302 false (([3, 1] : List Int))).bind fun bt308 => (if t285 = 3 then ((quaerelaw0_Num.f t286).bind fun t310 => (if t310 = 0 then (if t290 = 2 then ((quaerelaw0_Num.f t291).bind fun t311 => (if t311 = 0 then ((quaerelaw0_SameInts.f k t298 (([2] : List Int))).bind fun t315 => (if t315 = true then ((quaerelaw0_Num.f t299).bind fun t316 => (if t316 = 0 then ((quaerelaw0_Num.f bt308.2).bind fun t317 => (if t317 = 700 then ((quaerelaw7_words.f).bind fun t318 => ((lit_May.f k t318 false y270).bind fun t321 => (some t321))) else (none))) else (none))) else (none))) else (none))) else (none)) else (none))) else (none))) = some r := H
 have A7 := Aside0.mk A70
 clear A70
 obtain ⟨y305, hy305⟩ : ∃ y_ : List Int, y_ = (([3, 1] : List Int)) := ⟨_, rfl⟩
 replace H : ((lit_Weight.f k t302 false y305).bind fun bt308 => (if t285 = 3 then ((quaerelaw0_Num.f t286).bind fun t310 => (if t310 = 0 then (if t290 = 2 then ((quaerelaw0_Num.f t291).bind fun t311 => (if t311 = 0 then ((quaerelaw0_SameInts.f k t298 (([2] : List Int))).bind fun t315 => (if t315 = true then ((quaerelaw0_Num.f t299).bind fun t316 => (if t316 = 0 then ((quaerelaw0_Num.f bt308.2).bind fun t317 => (if t317 = 700 then ((quaerelaw7_words.f).bind fun t318 => ((lit_May.f k t318 false y270).bind fun t321 => (some t321))) else (none))) else (none))) else (none))) else (none))) else (none)) else (none))) else (none))) = some r := by first | (rw [hy305]; with_reducible exact H) | (have H2_ := (Option.bind_some _ _).symm.trans H; rw [hy305]; with_reducible exact H2_) | (have H2_ := (Option.bind_some _ _).symm.trans H; with_reducible exact H2_) | with_reducible exact H | (rw [hy305]; exact H) | exact H
 have Ny305 := Aside0.mk hy305
 clear hy305
 replace H := Option.bind_eq_some_iff.mp H
 obtain ⟨⟨t308, t309⟩, A80, H⟩ := H
 replace H : (if t285 = 3 then ((quaerelaw0_Num.f t286).bind fun t310 => (if t310 = 0 then (if t290 = 2 then ((quaerelaw0_Num.f t291).bind fun t311 => (if t311 = 0 then ((quaerelaw0_SameInts.f k t298 (([2] : List Int))).bind fun t315 => (if t315 = true then ((quaerelaw0_Num.f t299).bind fun t316 => (if t316 = 0 then ((quaerelaw0_Num.f t309).bind fun t317 => (if t317 = 700 then ((quaerelaw7_words.f).bind fun t318 => ((lit_May.f k t318 false y270).bind fun t321 => (some t321))) else (none))) else (none))) else (none))) else (none))) else (none)) else (none))) else (none)) = some r := H
 have A8 := Aside0.mk A80
 clear A80
 by_cases c9 : t285 = 3
 ·rw [if_pos c9] at H
  have c9b0 : (t285 == 3) = true := beq_iff_eq.mpr c9
  have c9b1 : (t285 != 3) = false := bne_eq_false_iff_eq.mpr c9
  clear c9
  replace H := Option.bind_eq_some_iff.mp H
  obtain ⟨t310, A100, H⟩ := H
  replace H : (if t310 = 0 then (if t290 = 2 then ((quaerelaw0_Num.f t291).bind fun t311 => (if t311 = 0 then ((quaerelaw0_SameInts.f k t298 (([2] : List Int))).bind fun t315 => (if t315 = true then ((quaerelaw0_Num.f t299).bind fun t316 => (if t316 = 0 then ((quaerelaw0_Num.f t309).bind fun t317 => (if t317 = 700 then ((quaerelaw7_words.f).bind fun t318 => ((lit_May.f k t318 false y270).bind fun t321 => (some t321))) else (none))) else (none))) else (none))) else (none))) else (none)) else (none)) = some r := H
  have A10 := Aside0.mk A100
  clear A100
  by_cases c11 : t310 = 0
  ·rw [if_pos c11] at H
   have c11b0 : (t310 == 0) = true := beq_iff_eq.mpr c11
   have c11b1 : (t310 != 0) = false := bne_eq_false_iff_eq.mpr c11
   clear c11
   by_cases c12 : t290 = 2
   ·rw [if_pos c12] at H
    have c12b0 : (t290 == 2) = true := beq_iff_eq.mpr c12
    have c12b1 : (t290 != 2) = false := bne_eq_false_iff_eq.mpr c12
    clear c12
    replace H := Option.bind_eq_some_iff.mp H
    obtain ⟨t311, A130, H⟩ := H
    replace H : (if t311 = 0 then ((quaerelaw0_SameInts.f k t298 (([2] : List Int))).bind fun t315 => (if t315 = true then ((quaerelaw0_Num.f t299).bind fun t316 => (if t316 = 0 then ((quaerelaw0_Num.f t309).bind fun t317 => (if t317 = 700 then ((quaerelaw7_words.f).bind fun t318 => ((lit_May.f k t318 false y270).bind fun t321 => (some t321))) else (none))) else (none))) else (none))) else (none)) = some r := H
    have A13 := Aside0.mk A130
    clear A130
    by_cases c14 : t311 = 0
    ·rw [if_pos c14] at H
     have c14b0 : (t311 == 0) = true := beq_iff_eq.mpr c14
     have c14b1 : (t311 != 0) = false := bne_eq_false_iff_eq.mpr c14
     clear c14
     obtain ⟨y312, hy312⟩ : ∃ y_ : List Int, y_ = (([2] : List Int)) := ⟨_, rfl⟩
     replace H : ((quaerelaw0_SameInts.f k t298 y312).bind fun t315 => (if t315 = true then ((quaerelaw0_Num.f t299).bind fun t316 => (if t316 = 0 then ((quaerelaw0_Num.f t309).bind fun t317 => (if t317 = 700 then ((quaerelaw7_words.f).bind fun t318 => ((lit_May.f k t318 false y270).bind fun t321 => (some t321))) else (none))) else (none))) else (none))) = some r := by first | (rw [hy312]; with_reducible exact H) | (have H2_ := (Option.bind_some _ _).symm.trans H; rw [hy312]; with_reducible exact H2_) | (have H2_ := (Option.bind_some _ _).symm.trans H; with_reducible exact H2_) | with_reducible exact H | (rw [hy312]; exact H) | exact H
     have Ny312 := Aside0.mk hy312
     clear hy312
     replace H := Option.bind_eq_some_iff.mp H
     obtain ⟨t315, A150, H⟩ := H
     replace H : (if t315 = true then ((quaerelaw0_Num.f t299).bind fun t316 => (if t316 = 0 then ((quaerelaw0_Num.f t309).bind fun t317 => (if t317 = 700 then ((quaerelaw7_words.f).bind fun t318 => ((lit_May.f k t318 false y270).bind fun t321 => (some t321))) else (none))) else (none))) else (none)) = some r := H
     have A15 := Aside0.mk A150
     clear A150
     by_cases c16 : t315 = true
     ·subst c16
      have H1 : ((quaerelaw0_Num.f t299).bind fun t316 => (if t316 = 0 then ((quaerelaw0_Num.f t309).bind fun t317 => (if t317 = 700 then ((quaerelaw7_words.f).bind fun t318 => ((lit_May.f k t318 false y270).bind fun t321 => (some t321))) else (none))) else (none))) = some r := by rw [if_pos rfl] at H; exact H
      clear H
      have H := H1
      clear H1
      replace H := Option.bind_eq_some_iff.mp H
      obtain ⟨t316, A170, H⟩ := H
      replace H : (if t316 = 0 then ((quaerelaw0_Num.f t309).bind fun t317 => (if t317 = 700 then ((quaerelaw7_words.f).bind fun t318 => ((lit_May.f k t318 false y270).bind fun t321 => (some t321))) else (none))) else (none)) = some r := H
      have A17 := Aside0.mk A170
      clear A170
      by_cases c18 : t316 = 0
      ·rw [if_pos c18] at H
       have c18b0 : (t316 == 0) = true := beq_iff_eq.mpr c18
       have c18b1 : (t316 != 0) = false := bne_eq_false_iff_eq.mpr c18
       clear c18
       replace H := Option.bind_eq_some_iff.mp H
       obtain ⟨t317, A190, H⟩ := H
       replace H : (if t317 = 700 then ((quaerelaw7_words.f).bind fun t318 => ((lit_May.f k t318 false y270).bind fun t321 => (some t321))) else (none)) = some r := H
       have A19 := Aside0.mk A190
       clear A190
       by_cases c20 : t317 = 700
       ·rw [if_pos c20] at H
        have c20b0 : (t317 == 700) = true := beq_iff_eq.mpr c20
        have c20b1 : (t317 != 700) = false := bne_eq_false_iff_eq.mpr c20
        clear c20
        replace H := Option.bind_eq_some_iff.mp H
        obtain ⟨t318, A210, H⟩ := H
        replace H : ((lit_May.f k t318 false y270).bind fun t321 => (some t321)) = some r := H
        have A21 := Aside0.mk A210
        clear A210
        replace H := Option.bind_eq_some_iff.mp H
        obtain ⟨t321, A220, H⟩ := H
        replace H : (some t321) = some r := H
        have A22 := Aside0.mk A220
        clear A220
        obtain rfl := Option.some.inj H
        go_enter Tryd.func18, Tryd.ntmps18
        try go_wp2_with (first | ((with_reducible refine gate_dst (N := 12) rfl ?_); (try (refine gate_guard (by rfl) ?_; dsimp only)); refine Kd.R_lit (Kd.int .i64) _ 3 ?hg (N := 12) ?hd (xs := ([5, (-1)] : List Int)) (inner := [.int .i64 5, .int .i64 (-1)]) (ok := fun _ => True) (okp := fun _ => True) ?hr ?hp (fun _ hk => hk) trivial (Below.refl _ _) (Nat.le_refl _) (by simp) ?_; (case hd => rfl); (case hg => rfl); (case hr => first | (go_simp; done) | (go_simp; rfl)); (case hp => exact (Reps.one (show Kd.M (Kd.int .i64) _ _ _ 5 [.int .i64 5] from rfl) (Reps.one (show Kd.M (Kd.int .i64) _ _ _ (-1) [.int .i64 (-1)] from rfl) (Reps.none _ _)))); intro v271 w23 ho24 hb hg_ hnew_; clear hg_ hnew_; (first | rw [← Ny270.out] at ho24 | (simp only [Int.reduceToNat] at ho24; rw [← Ny270.out] at ho24)); have n0_ := Aside0.mk (Kd.R_lower ho24 (below_size bB)); have n1_ := Aside0.mk (below_step bB hb); clear HB; have HO272 := n0_; have HB := n1_; clear n0_ n1_; clear hb ho24; obtain ⟨Ao25, co25, eo25⟩ := Kd.R_slice HO272.out; subst eo25) | ((with_reducible refine gate_dst (N := 1) rfl ?_); (try (refine gate_guard (by rfl) ?_; dsimp only)); refine box_event ?hg (N := 1) ?hd (cs := #[.bool false, .slice none 0 0]) (t := 25) ?hr ?_; (case hd => rfl); (case hg => rfl); (case hr => first | (go_simp; done) | (go_simp; rfl)); intro gb273 hg w26 hbox hb; have n0_ := Aside0.mk (Kd.R_below (rK HO272) hb); have n1_ := Aside0.mk (below_step bB hb); have n2_ := Aside0.mk (hbox); have n3_ := Aside0.mk ((by rw [hg]; exact (below_size bB) : w.heap.size ≤ gb273)); have n4_ := Aside0.mk ((by rw [hg]; exact (below_size bB) : w.heap.size ≤ gb273)); clear HO272; clear HB; have HO272 := n0_; have HB := n1_; have BK273 := n2_; have GW273 := n3_; have GE273 := n4_; clear n0_ n1_ n2_ n3_ n4_; clear hb hbox hg; have hcz27_0 : w26.cell? ⟨gb273, 0, none⟩ = some (.bool false) := (blk_cell BK273.out 0).trans rfl; have hcz27_1 : w26.cell? ⟨gb273, 1, none⟩ = some (.slice none 0 0) := (blk_cell BK273.out 1).trans rfl; have hfz27_0 := blk_frozen BK273.out 0; have hfz27_1 := blk_frozen BK273.out 1) | ((with_reducible refine gate_dst (N := 14) rfl ?_); (try (refine gate_guard (by rfl) ?_; dsimp only)); refine Kd.R_lit (Kd.int .i64) _ 3 ?hg (N := 14) ?hd (xs := ([5, (-1)] : List Int)) (inner := [.int .i64 5, .int .i64 (-1)]) (ok := fun _ => True) (okp := fun _ => True) ?hr ?hp (fun _ hk => hk) trivial (Below.refl _ _) (Nat.le_refl _) (by simp) ?_; (case hd => rfl); (case hg => rfl); (case hr => first | (go_simp; done) | (go_simp; rfl)); (case hp => exact (Reps.one (show Kd.M (Kd.int .i64) _ _ _ 5 [.int .i64 5] from rfl) (Reps.one (show Kd.M (Kd.int .i64) _ _ _ (-1) [.int .i64 (-1)] from rfl) (Reps.none _ _)))); intro v275 w28 ho29 hb hg_ hnew_; clear hg_ hnew_; (first | rw [← Ny274.out] at ho29 | (simp only [Int.reduceToNat] at ho29; rw [← Ny274.out] at ho29)); have n0_ := Aside0.mk (Kd.R_elder' (by (with_reducible repeat (first | apply Kd.R_alloc | apply Kd.R_drewN | apply Kd.R_drew)); exact (Kd.R_mono (Kd.R_far (p := ⟨gb273, 1, none⟩) (Kd.R_far (p := ⟨gb273, 0, none⟩) (Kd.R_types HO272.out BK273.out (by decide)) (fun _ hk => hk.2) (.bool false)) (fun _ hk => hk.2) (.slice Ao25 y270.length co25)) (fun _ h_ => h_.1))) (Kd.R_base ho29) hb); have n1_ := Aside0.mk (Kd.R_lower (Kd.R_new' ho29 (Kd.R_lt (by (with_reducible repeat (first | apply Kd.R_alloc | apply Kd.R_drewN | apply Kd.R_drew)); exact (Kd.R_mono (Kd.R_far (p := ⟨gb273, 1, none⟩) (Kd.R_far (p := ⟨gb273, 0, none⟩) (Kd.R_types HO272.out BK273.out (by decide)) (fun _ hk => hk.2) (.bool false)) (fun _ hk => hk.2) (.slice Ao25 y270.length co25)) (fun _ h_ => h_.1))))) (below_size bS)); have n2_ := Aside0.mk (blk_below (g := gb273) (o := .cells #[.bool false, .slice Ao25 y270.length co25] 25 (0, 0)) (by (with_reducible repeat (first | refine blk_drewN ?_ _ | refine blk_drew ?_ | refine blk_alloc ?_ _)); refine blk_put (cs := #[.bool false, .slice none 0 0]) ?_ 1 _ rfl; (with_reducible repeat (first | refine blk_drewN ?_ _ | refine blk_drew ?_ | refine blk_alloc ?_ _)); refine blk_put (cs := #[.bool false, .slice none 0 0]) ?_ 0 _ rfl; (with_reducible repeat (first | refine blk_drewN ?_ _ | refine blk_drew ?_ | refine blk_alloc ?_ _)); exact BK273.out) hb); have n3_ := Aside0.mk (below_step bS hb); clear HO272; clear BK273; clear HB; have HO272 := n0_; have HO276 := n1_; have BK273 := n2_; have HB := n3_; clear n0_ n1_ n2_ n3_; clear hb ho29; obtain ⟨Ao30, co30, eo30⟩ := Kd.R_slice HO276.out; subst eo30) | ((with_reducible refine gate_dst (N := 2) rfl ?_); (try (refine gate_guard (by rfl) ?_; dsimp only)); refine box_event ?hg (N := 2) ?hd (cs := #[.bool false, .slice none 0 0]) (t := 25) ?hr ?_; (case hd => rfl); (case hg => rfl); (case hr => first | (go_simp; done) | (go_simp; rfl)); intro gb277 hg w31 hbox hb; have n0_ := Aside0.mk (Kd.R_below (rK HO272) hb); have n1_ := Aside0.mk (Kd.R_below (rK HO276) hb); have n2_ := Aside0.mk (blk_below (g := gb273) (o := .cells #[.bool false, .slice Ao25 y270.length co25] 25 (0, 0)) (bK BK273) hb); have n3_ := Aside0.mk (below_step bS hb); have n4_ := Aside0.mk (hbox); have n5_ := Aside0.mk ((by rw [hg]; exact (below_size bS) : w.heap.size ≤ gb277)); have n6_ := Aside0.mk ((by rw [hg]; exact (below_size bS) : w.heap.size ≤ gb277)); have n7_ := Aside0.mk ((by rw [hg]; exact Nat.ne_of_lt (blk_lt (g := gb273) (o := .cells #[.bool false, .slice Ao25 y270.length co25] 25 (0, 0)) (bK BK273)) : gb273 ≠ gb277)); have n8_ := Aside0.mk ((by rw [hg]; exact Nat.ne_of_gt (blk_lt (g := gb273) (o := .cells #[.bool false, .slice Ao25 y270.length co25] 25 (0, 0)) (bK BK273)) : gb277 ≠ gb273)); clear HO272; clear HO276; clear BK273; clear HB; have HO272 := n0_; have HO276 := n1_; have BK273 := n2_; have HB := n3_; have BK277 := n4_; have GW277 := n5_; have GE277 := n6_; have NB273_277 := n7_; have NB277_273 := n8_; clear n0_ n1_ n2_ n3_ n4_ n5_ n6_ n7_ n8_; clear hb hbox hg; have hnb32 := NB277_273.out; have hnc32 := NB273_277.out; have hcz33_0 : w31.cell? ⟨gb277, 0, none⟩ = some (.bool false) := (blk_cell BK277.out 0).trans rfl; have hcz33_1 : w31.cell? ⟨gb277, 1, none⟩ = some (.slice none 0 0) := (blk_cell BK277.out 1).trans rfl; have hfz33_0 := blk_frozen BK277.out 0; have hfz33_1 := blk_frozen BK277.out 1) | ((with_reducible refine gate_dst (N := 16) rfl ?_); (try (refine gate_guard (by rfl) ?_; dsimp only)); refine Kd.R_lit (Kd.int .i64) _ 3 ?hg (N := 16) ?hd (xs := ([5, 3, (-1)] : List Int)) (inner := [.int .i64 5, .int .i64 3, .int .i64 (-1)]) (ok := fun _ => True) (okp := fun _ => True) ?hr ?hp (fun _ hk => hk) trivial (Below.refl _ _) (Nat.le_refl _) (by simp) ?_; (case hd => rfl); (case hg => rfl); (case hr => first | (go_simp; done) | (go_simp; rfl)); (case hp => exact (Reps.one (show Kd.M (Kd.int .i64) _ _ _ 5 [.int .i64 5] from rfl) (Reps.one (show Kd.M (Kd.int .i64) _ _ _ 3 [.int .i64 3] from rfl) (Reps.one (show Kd.M (Kd.int .i64) _ _ _ (-1) [.int .i64 (-1)] from rfl) (Reps.none _ _))))); intro v279 w34 ho35 hb hg_ hnew_; clear hg_ hnew_; (first | rw [← Ny278.out] at ho35 | (simp only [Int.reduceToNat] at ho35; rw [← Ny278.out] at ho35)); have n0_ := Aside0.mk (Kd.R_elder' (by (with_reducible repeat (first | apply Kd.R_alloc | apply Kd.R_drewN | apply Kd.R_drew)); exact (Kd.R_mono (Kd.R_far (p := ⟨gb277, 1, none⟩) (Kd.R_far (p := ⟨gb277, 0, none⟩) (Kd.R_types HO272.out BK277.out (by decide)) (fun _ hk => hk.2) (.bool true)) (fun _ hk => hk.2) (.slice Ao30 y274.length co30)) (fun _ h_ => h_.1))) (Kd.R_base ho35) hb); have n1_ := Aside0.mk (Kd.R_elder' (by (with_reducible repeat (first | apply Kd.R_alloc | apply Kd.R_drewN | apply Kd.R_drew)); exact (Kd.R_mono (Kd.R_far (p := ⟨gb277, 1, none⟩) (Kd.R_far (p := ⟨gb277, 0, none⟩) (Kd.R_types HO276.out BK277.out (by decide)) (fun _ hk => hk.2) (.bool true)) (fun _ hk => hk.2) (.slice Ao30 y274.length co30)) (fun _ h_ => h_.1))) (Kd.R_base ho35) hb); have n2_ := Aside0.mk (Kd.R_lower (Kd.R_new' (Kd.R_new' ho35 (Kd.R_lt (by (with_reducible repeat (first | apply Kd.R_alloc | apply Kd.R_drewN | apply Kd.R_drew)); exact (Kd.R_mono (Kd.R_far (p := ⟨gb277, 1, none⟩) (Kd.R_far (p := ⟨gb277, 0, none⟩) (Kd.R_types HO272.out BK277.out (by decide)) (fun _ hk => hk.2) (.bool true)) (fun _ hk => hk.2) (.slice Ao30 y274.length co30)) (fun _ h_ => h_.1))))) (Kd.R_lt (by (with_reducible repeat (first | apply Kd.R_alloc | apply Kd.R_drewN | apply Kd.R_drew)); exact (Kd.R_mono (Kd.R_far (p := ⟨gb277, 1, none⟩) (Kd.R_far (p := ⟨gb277, 0, none⟩) (Kd.R_types HO276.out BK277.out (by decide)) (fun _ hk => hk.2) (.bool true)) (fun _ hk => hk.2) (.slice Ao30 y274.length co30)) (fun _ h_ => h_.1))))) (below_size bS)); have n3_ := Aside0.mk (blk_below (g := gb273) (o := .cells #[.bool false, .slice Ao25 y270.length co25] 25 (0, 0)) (by (with_reducible repeat (first | refine blk_drewN ?_ _ | refine blk_drew ?_ | refine blk_alloc ?_ _)); refine blk_far ?_ NB273_277.out _; (with_reducible repeat (first | refine blk_drewN ?_ _ | refine blk_drew ?_ | refine blk_alloc ?_ _)); refine blk_far ?_ NB273_277.out _; (with_reducible repeat (first | refine blk_drewN ?_ _ | refine blk_drew ?_ | refine blk_alloc ?_ _)); exact BK273.out) hb); have n4_ := Aside0.mk (blk_below (g := gb277) (o := .cells #[.bool true, .slice Ao30 y274.length co30] 25 (0, 0)) (by (with_reducible repeat (first | refine blk_drewN ?_ _ | refine blk_drew ?_ | refine blk_alloc ?_ _)); refine blk_put (cs := #[.bool true, .slice none 0 0]) ?_ 1 _ rfl; (with_reducible repeat (first | refine blk_drewN ?_ _ | refine blk_drew ?_ | refine blk_alloc ?_ _)); refine blk_put (cs := #[.bool false, .slice none 0 0]) ?_ 0 _ rfl; (with_reducible repeat (first | refine blk_drewN ?_ _ | refine blk_drew ?_ | refine blk_alloc ?_ _)); exact BK277.out) hb); have n5_ := Aside0.mk (below_step bS hb); clear HO272; clear HO276; clear BK273; clear BK277; clear HB; have HO272 := n0_; have HO276 := n1_; have HO280 := n2_; have BK273 := n3_; have BK277 := n4_; have HB := n5_; clear n0_ n1_ n2_ n3_ n4_ n5_; clear hb ho35; obtain ⟨Ao36, co36, eo36⟩ := Kd.R_slice HO280.out; subst eo36) | ((with_reducible refine gate_dst (N := 3) rfl ?_); (try (refine gate_guard (by rfl) ?_; dsimp only)); refine box_event ?hg (N := 3) ?hd (cs := #[.bool false, .slice none 0 0]) (t := 25) ?hr ?_; (case hd => rfl); (case hg => rfl); (case hr => first | (go_simp; done) | (go_simp; rfl)); intro gb281 hg w37 hbox hb; have n0_ := Aside0.mk (Kd.R_below (rK HO272) hb); have n1_ := Aside0.mk (Kd.R_below (rK HO276) hb); have n2_ := Aside0.mk (Kd.R_below (rK HO280) hb); have n3_ := Aside0.mk (blk_below (g := gb273) (o := .cells #[.bool false, .slice Ao25 y270.length co25] 25 (0, 0)) (bK BK273) hb); have n4_ := Aside0.mk (blk_below (g := gb277) (o := .cells #[.bool true, .slice Ao30 y274.length co30] 25 (0, 0)) (bK BK277) hb); have n5_ := Aside0.mk (below_step bS hb); have n6_ := Aside0.mk (hbox); have n7_ := Aside0.mk ((by rw [hg]; exact (below_size bS) : w.heap.size ≤ gb281)); have n8_ := Aside0.mk ((by rw [hg]; exact (below_size bS) : w.heap.size ≤ gb281)); have n9_ := Aside0.mk ((by rw [hg]; exact Nat.ne_of_lt (blk_lt (g := gb273) (o := .cells #[.bool false, .slice Ao25 y270.length co25] 25 (0, 0)) (bK BK273)) : gb273 ≠ gb281)); have n10_ := Aside0.mk ((by rw [hg]; exact Nat.ne_of_gt (blk_lt (g := gb273) (o := .cells #[.bool false, .slice Ao25 y270.length co25] 25 (0, 0)) (bK BK273)) : gb281 ≠ gb273)); have n11_ := Aside0.mk ((by rw [hg]; exact Nat.ne_of_lt (blk_lt (g := gb277) (o := .cells #[.bool true, .slice Ao30 y274.length co30] 25 (0, 0)) (bK BK277)) : gb277 ≠ gb281)); have n12_ := Aside0.mk ((by rw [hg]; exact Nat.ne_of_gt (blk_lt (g := gb277) (o := .cells #[.bool true, .slice Ao30 y274.length co30] 25 (0, 0)) (bK BK277)) : gb281 ≠ gb277)); clear HO272; clear HO276; clear HO280; clear BK273; clear BK277; clear HB; have HO272 := n0_; have HO276 := n1_; have HO280 := n2_; have BK273 := n3_; have BK277 := n4_; have HB := n5_; have BK281 := n6_; have GW281 := n7_; have GE281 := n8_; have NB273_281 := n9_; have NB281_273 := n10_; have NB277_281 := n11_; have NB281_277 := n12_; clear n0_ n1_ n2_ n3_ n4_ n5_ n6_ n7_ n8_ n9_ n10_ n11_ n12_; clear hb hbox hg; have hnb38 := NB281_273.out; have hnc38 := NB273_281.out; have hnb39 := NB281_277.out; have hnc39 := NB277_281.out; have hcz40_0 : w37.cell? ⟨gb281, 0, none⟩ = some (.bool false) := (blk_cell BK281.out 0).trans rfl; have hcz40_1 : w37.cell? ⟨gb281, 1, none⟩ = some (.slice none 0 0) := (blk_cell BK281.out 1).trans rfl; have hfz40_0 := blk_frozen BK281.out 0; have hfz40_1 := blk_frozen BK281.out 1))
        have n0_ : Aside0 (Kd.R (Kd.int .i64) 3 ((w37.setCell ⟨gb281, 0, none⟩ (.bool false)).setCell ⟨gb281, 1, none⟩ (.slice Ao36 y278.length co36)) w.heap.size (fun k_ => some k_ ≠ (.slice Ao30 y274.length co30 : Value).ownBlock ∧ some k_ ≠ (.slice Ao36 y278.length co36 : Value).ownBlock) (.slice Ao25 y270.length co25) y270) := ⟨by (with_reducible repeat (first | apply Kd.R_alloc | apply Kd.R_drewN | apply Kd.R_drew)); exact Kd.R_mono (Kd.R_far (p := ⟨gb281, 1, none⟩) (Kd.R_far (p := ⟨gb281, 0, none⟩) (Kd.R_types HO272.out BK281.out (by decide)) (fun _ hk => hk.2) (.bool false)) (fun _ hk => hk.2) (.slice Ao36 y278.length co36)) (fun _ hk => ⟨hk.1.1.2, hk.1.2⟩)⟩
        have n1_ : Aside0 (Kd.R (Kd.int .i64) 3 ((w37.setCell ⟨gb281, 0, none⟩ (.bool false)).setCell ⟨gb281, 1, none⟩ (.slice Ao36 y278.length co36)) w.heap.size (fun k_ => some k_ ≠ (.slice Ao25 y270.length co25 : Value).ownBlock ∧ some k_ ≠ (.slice Ao36 y278.length co36 : Value).ownBlock) (.slice Ao30 y274.length co30) y274) := ⟨by (with_reducible repeat (first | apply Kd.R_alloc | apply Kd.R_drewN | apply Kd.R_drew)); exact Kd.R_mono (Kd.R_far (p := ⟨gb281, 1, none⟩) (Kd.R_far (p := ⟨gb281, 0, none⟩) (Kd.R_types HO276.out BK281.out (by decide)) (fun _ hk => hk.2) (.bool false)) (fun _ hk => hk.2) (.slice Ao36 y278.length co36)) (fun _ hk => ⟨hk.1.1.2, hk.1.2⟩)⟩
        have n2_ : Aside0 (Kd.R (Kd.int .i64) 3 ((w37.setCell ⟨gb281, 0, none⟩ (.bool false)).setCell ⟨gb281, 1, none⟩ (.slice Ao36 y278.length co36)) w.heap.size (fun k_ => some k_ ≠ (.slice Ao25 y270.length co25 : Value).ownBlock ∧ some k_ ≠ (.slice Ao30 y274.length co30 : Value).ownBlock) (.slice Ao36 y278.length co36) y278) := ⟨by (with_reducible repeat (first | apply Kd.R_alloc | apply Kd.R_drewN | apply Kd.R_drew)); exact Kd.R_mono (Kd.R_far (p := ⟨gb281, 1, none⟩) (Kd.R_far (p := ⟨gb281, 0, none⟩) (Kd.R_types HO280.out BK281.out (by decide)) (fun _ hk => hk.2) (.bool false)) (fun _ hk => hk.2) (.slice Ao36 y278.length co36)) (fun _ hk => ⟨hk.1.1.2, hk.1.2⟩)⟩
        have n3_ : Aside0 (((w37.setCell ⟨gb281, 0, none⟩ (.bool false)).setCell ⟨gb281, 1, none⟩ (.slice Ao36 y278.length co36)).heap[gb273]? = some (.cells #[.bool false, .slice Ao25 y270.length co25] 25 (0, 0))) := ⟨by (with_reducible repeat (first | refine blk_drewN ?_ _ | refine blk_drew ?_ | refine blk_alloc ?_ _)); refine blk_far ?_ NB273_281.out _; (with_reducible repeat (first | refine blk_drewN ?_ _ | refine blk_drew ?_ | refine blk_alloc ?_ _)); refine blk_far ?_ NB273_281.out _; (with_reducible repeat (first | refine blk_drewN ?_ _ | refine blk_drew ?_ | refine blk_alloc ?_ _)); exact BK273.out⟩
        have n4_ : Aside0 (((w37.setCell ⟨gb281, 0, none⟩ (.bool false)).setCell ⟨gb281, 1, none⟩ (.slice Ao36 y278.length co36)).heap[gb277]? = some (.cells #[.bool true, .slice Ao30 y274.length co30] 25 (0, 0))) := ⟨by (with_reducible repeat (first | refine blk_drewN ?_ _ | refine blk_drew ?_ | refine blk_alloc ?_ _)); refine blk_far ?_ NB277_281.out _; (with_reducible repeat (first | refine blk_drewN ?_ _ | refine blk_drew ?_ | refine blk_alloc ?_ _)); refine blk_far ?_ NB277_281.out _; (with_reducible repeat (first | refine blk_drewN ?_ _ | refine blk_drew ?_ | refine blk_alloc ?_ _)); exact BK277.out⟩
        have n5_ : Aside0 (((w37.setCell ⟨gb281, 0, none⟩ (.bool false)).setCell ⟨gb281, 1, none⟩ (.slice Ao36 y278.length co36)).heap[gb281]? = some (.cells #[.bool false, .slice Ao36 y278.length co36] 25 (0, 0))) := ⟨by (with_reducible repeat (first | refine blk_drewN ?_ _ | refine blk_drew ?_ | refine blk_alloc ?_ _)); refine blk_put (cs := #[.bool false, .slice none 0 0]) ?_ 1 _ rfl; (with_reducible repeat (first | refine blk_drewN ?_ _ | refine blk_drew ?_ | refine blk_alloc ?_ _)); refine blk_put (cs := #[.bool false, .slice none 0 0]) ?_ 0 _ rfl; (with_reducible repeat (first | refine blk_drewN ?_ _ | refine blk_drew ?_ | refine blk_alloc ?_ _)); exact BK281.out⟩
        have n6_ : Aside0 (Below w.heap.size w ((w37.setCell ⟨gb281, 0, none⟩ (.bool false)).setCell ⟨gb281, 1, none⟩ (.slice Ao36 y278.length co36))) := ⟨bS⟩
        (try clear HO272)
        (try clear HO276)
        (try clear HO280)
        (try clear BK273)
        (try clear BK277)
        (try clear BK281)
        (try clear HB)
        generalize ((w37.setCell ⟨gb281, 0, none⟩ (.bool false)).setCell ⟨gb281, 1, none⟩ (.slice Ao36 y278.length co36)) = w41 at n0_ n1_ n2_ n3_ n4_ n5_ n6_ ⊢
        have HO272 := n0_
        have HO276 := n1_
        have HO280 := n2_
        have BK273 := n3_
        have BK277 := n4_
        have BK281 := n5_
        have HB := n6_
        clear n0_ n1_ n2_ n3_ n4_ n5_ n6_
        have n0_ := Aside0.mk (Kd.R_drew HO272.out)
        have n1_ := Aside0.mk (Kd.R_drew HO276.out)
        have n2_ := Aside0.mk (Kd.R_drew HO280.out)
        have n3_ := Aside0.mk (blk_drew BK273.out)
        have n4_ := Aside0.mk (blk_drew BK277.out)
        have n5_ := Aside0.mk (blk_drew BK281.out)
        have n6_ := Aside0.mk (below_drew1 HB.out)
        clear HO272 HO276 HO280 BK273 BK277 BK281 HB
        have HO272 := n0_
        have HO276 := n1_
        have HO280 := n2_
        have BK273 := n3_
        have BK277 := n4_
        have BK281 := n5_
        have HB := n6_
        clear n0_ n1_ n2_ n3_ n4_ n5_ n6_
        refine start_ (n := 8) (S := fun w' => w'.cell? ⟨gb281, 0, none⟩ = some (.bool false) ∧ w'.cell? ⟨gb281, 1, none⟩ = some (.slice Ao36 y278.length co36)) (ds := []) #[false, false, false, false, false, false, false, false] (by kernel_rfl) rfl rfl ⟨(blk_cell BK281.out 0).trans rfl, (blk_cell BK281.out 1).trans rfl⟩ (fun hHeld => ?_); refine with_tabW quaerelaw7_awake.tab4 quaerelaw7_awake.bits4 (fun HT_ HW_ => ?_)
        generalize w41.drew = w42 at HO272 HO276 HO280 BK273 BK277 BK281 HB hHeld ⊢
        refine take_ (i := 1) (N := some 20) (v := ?_) (a' := ?_) #[false, true, false, false, false, false, false, false] rfl rfl (take_ofW HT_.out HW_.out (by kernel_rfl)) (fun _ _ _ h => h) (Or.inl ⟨by rfl, ?_⟩) hHeld ?_ ?_
        rotate_left
        ·rintro w' ⟨s0, s1⟩
         go_simp
         with_reducible rfl
        rotate_left
        ·simp only [Act.put, List.setIfInBounds_toArray, List.set_cons_zero, List.set_cons_succ, i64_w, i32_w]
         rfl
        refine one_ (i := 0) (N := some 19) #[true, true, false, false, false, false, false, false] rfl rfl (one_of HT_.out (by kernel_rfl)) (by decide) (fun K hK => ?_)
        refine goes_ Tryd.func30 (by kernel_rfl) rfl #[] (by rfl) rfl rfl mA ?_
        with_reducible refine (quaerelaw7_words.calls  t282 _ A1.out).mono ?_
        rintro e w43 ⟨v283, rfl, ho0, hb⟩
        refine ⟨_, rfl, ?_⟩
        have n0_ := Aside0.mk (Kd.R_below (rK HO272) hb)
        have n1_ := Aside0.mk (Kd.R_below (rK HO276) hb)
        have n2_ := Aside0.mk (Kd.R_below (rK HO280) hb)
        have n3_ := Aside0.mk (Kd.R_lower ho0 (below_size bS))
        have n4_ := Aside0.mk (blk_below (g := gb273) (o := .cells #[.bool false, .slice Ao25 y270.length co25] 25 (0, 0)) (bK BK273) hb)
        have n5_ := Aside0.mk (blk_below (g := gb277) (o := .cells #[.bool true, .slice Ao30 y274.length co30] 25 (0, 0)) (bK BK277) hb)
        have n6_ := Aside0.mk (blk_below (g := gb281) (o := .cells #[.bool false, .slice Ao36 y278.length co36] 25 (0, 0)) (bK BK281) hb)
        have n7_ := Aside0.mk (below_step bS hb)
        clear HO272 HO276 HO280 BK273 BK277 BK281 HB
        have HO272 := n0_
        have HO276 := n1_
        have HO280 := n2_
        have HO284 := n3_
        have BK273 := n4_
        have BK277 := n5_
        have BK281 := n6_
        have HB := n7_
        clear n0_ n1_ n2_ n3_ n4_ n5_ n6_ n7_
        (try clear hb)
        (try clear hb2)
        (try clear hk)
        (try clear hi)
        (try clear ho0)
        obtain ⟨Ao44, co44, eo44⟩ := Kd.R_slice HO284.out
        (first | subst eo44 | (injection eo44 with f1_ f2_ f3_; have f4_ := f1_.symm; have f5_ := f3_.symm; clear f1_ f2_ f3_; subst f4_; subst f5_))
        refine hK.out _ _ ⟨(blk_cell BK281.out 0).trans rfl, (blk_cell BK281.out 1).trans rfl⟩ (fun hHeld => ?_)
        clear hK K
        refine norm_ (a' := ?_) ?_ ?_
        rotate_left
        ·show Act.put _ (some 19) _ = _
         simp only [Act.put, List.setIfInBounds_toArray, List.set_cons_zero, List.set_cons_succ, i64_w, i32_w]
         rfl
        refine one_ (i := 2) (N := some 21) #[true, true, true, false, false, false, false, false] rfl rfl (one_of HT_.out (by kernel_rfl)) (by decide) (fun K hK => ?_)
        refine goes_ Tryd.func10 (by kernel_rfl) rfl #[.slice Ao44 t282.length co44, .agg #[.bool false, .slice Ao36 y278.length co36]] (by rfl) rfl rfl mA ?_
        with_reducible refine (lit_Weight.calls (hG := gK) k _ _ t282 false _ _ y278 t285 t286 _ ?side1 ?side2 ?side3 ?side4 A2.out).mono ?_
        (case side1 => exact cK ((Kd.R_reads' HO284.out).2.2))
        (case side2 => exact (Kd.R_reads' HO284.out).2.1)
        (case side3 => exact cK ((Kd.R_reads' HO280.out).2.2))
        (case side4 => exact (Kd.R_reads' HO280.out).2.1)
        rintro e w45 ⟨rfl, hb⟩
        refine ⟨_, rfl, ?_⟩
        have n0_ := Aside0.mk (Kd.R_below (rK HO272) hb)
        have n1_ := Aside0.mk (Kd.R_below (rK HO276) hb)
        have n2_ := Aside0.mk (Kd.R_below (rK HO280) hb)
        have n3_ := Aside0.mk (Kd.R_below (rK HO284) hb)
        have n4_ := Aside0.mk (blk_below (g := gb273) (o := .cells #[.bool false, .slice Ao25 y270.length co25] 25 (0, 0)) (bK BK273) hb)
        have n5_ := Aside0.mk (blk_below (g := gb277) (o := .cells #[.bool true, .slice Ao30 y274.length co30] 25 (0, 0)) (bK BK277) hb)
        have n6_ := Aside0.mk (blk_below (g := gb281) (o := .cells #[.bool false, .slice Ao36 y278.length co36] 25 (0, 0)) (bK BK281) hb)
        have n7_ := Aside0.mk (below_step bS hb)
        clear HO272 HO276 HO280 HO284 BK273 BK277 BK281 HB
        have HO272 := n0_
        have HO276 := n1_
        have HO280 := n2_
        have HO284 := n3_
        have BK273 := n4_
        have BK277 := n5_
        have BK281 := n6_
        have HB := n7_
        clear n0_ n1_ n2_ n3_ n4_ n5_ n6_ n7_
        (try clear hb)
        (try clear hb2)
        (try clear hk)
        (try clear hi)
        refine hK.out _ _ ⟨(blk_cell BK281.out 0).trans rfl, (blk_cell BK281.out 1).trans rfl⟩ (fun hHeld => ?_)
        clear hK K
        refine norm_ (a' := ?_) ?_ ?_
        rotate_left
        ·show Act.put _ (some 21) _ = _
         simp only [Act.put, List.setIfInBounds_toArray, List.set_cons_zero, List.set_cons_succ, i64_w, i32_w]
         rfl
        refine pure_ (i := 3) (N := some 18) (v := ?_) (a' := ?_) #[true, true, true, true, false, false, false, false] rfl rfl (any_of HT_.out (by kernel_rfl)) (fun _ _ _ h => h) (Or.inl ⟨by rfl, ?_⟩) ?_ ?_
        rotate_left
        ·intro w'
         go_simp
         with_reducible rfl
        rotate_left
        ·simp only [Act.put, List.setIfInBounds_toArray, List.set_cons_zero, List.set_cons_succ, i64_w, i32_w]
         rfl
        refine pure_ (i := 4) (N := some 22) (v := ?_) (a' := ?_) #[true, true, true, true, true, false, false, false] rfl rfl (any_of HT_.out (by kernel_rfl)) (fun _ _ _ h => h) (Or.inl ⟨by rfl, ?_⟩) ?_ ?_
        rotate_left
        ·intro w'
         go_simp
         with_reducible rfl
        rotate_left
        ·simp only [Act.put, List.setIfInBounds_toArray, List.set_cons_zero, List.set_cons_succ, i64_w, i32_w]
         rfl
        refine pure_ (i := 5) (N := some 23) (v := ?_) (a' := ?_) #[true, true, true, true, true, true, false, false] rfl rfl (any_of HT_.out (by kernel_rfl)) (fun _ _ _ h => h) (Or.inl ⟨by rfl, ?_⟩) ?_ ?_
        rotate_left
        ·intro w'
         go_simp
         with_reducible rfl
        rotate_left
        ·simp only [Act.put, List.setIfInBounds_toArray, List.set_cons_zero, List.set_cons_succ, i64_w, i32_w]
         rfl
        refine pure_ (i := 6) (N := some 4) (v := ?_) (a' := ?_) #[true, true, true, true, true, true, true, false] rfl rfl (any_of HT_.out (by kernel_rfl)) (fun _ _ _ h => h) (Or.inl ⟨by rfl, ?_⟩) ?_ ?_
        rotate_left
        ·intro w'
         go_simp
         with_reducible rfl
        rotate_left
        ·simp only [Act.put, List.setIfInBounds_toArray, List.set_cons_zero, List.set_cons_succ, i64_w, i32_w]
         rfl
        refine pure_ (i := 7) (N := some 5) (v := ?_) (a' := ?_) #[true, true, true, true, true, true, true, true] rfl rfl (any_of HT_.out (by kernel_rfl)) (fun _ _ _ h => h) (Or.inl ⟨by rfl, ?_⟩) ?_ ?_
        rotate_left
        ·intro w'
         go_simp
         with_reducible rfl
        rotate_left
        ·simp only [Act.put, List.setIfInBounds_toArray, List.set_cons_zero, List.set_cons_succ, i64_w, i32_w]
         rfl
        refine done_ (done_of HT_.out (by kernel_rfl)) ?_
        try go_wp2
        have n0_ := Aside0.mk (Kd.R_drew HO272.out)
        have n1_ := Aside0.mk (Kd.R_drew HO276.out)
        have n2_ := Aside0.mk (Kd.R_drew HO280.out)
        have n3_ := Aside0.mk (Kd.R_drew HO284.out)
        have n4_ := Aside0.mk (blk_drew BK273.out)
        have n5_ := Aside0.mk (blk_drew BK277.out)
        have n6_ := Aside0.mk (blk_drew BK281.out)
        have n7_ := Aside0.mk (below_drew1 HB.out)
        clear HO272 HO276 HO280 HO284 BK273 BK277 BK281 HB
        have HO272 := n0_
        have HO276 := n1_
        have HO280 := n2_
        have HO284 := n3_
        have BK273 := n4_
        have BK277 := n5_
        have BK281 := n6_
        have HB := n7_
        clear n0_ n1_ n2_ n3_ n4_ n5_ n6_ n7_
        refine start_ (n := 9) (S := fun w' => w'.cell? ⟨gb277, 0, none⟩ = some (.bool true) ∧ w'.cell? ⟨gb277, 1, none⟩ = some (.slice Ao30 y274.length co30) ∧ w'.cell? ⟨gb273, 0, none⟩ = some (.bool false) ∧ w'.cell? ⟨gb273, 1, none⟩ = some (.slice Ao25 y270.length co25)) (ds := []) #[false, false, false, false, false, false, false, false, false] (by kernel_rfl) rfl rfl ⟨(blk_cell BK277.out 0).trans rfl, (blk_cell BK277.out 1).trans rfl, (blk_cell BK273.out 0).trans rfl, (blk_cell BK273.out 1).trans rfl⟩ (fun hHeld => ?_); refine with_tabW quaerelaw7_awake.tab5 quaerelaw7_awake.bits5 (fun HT_ HW_ => ?_)
        generalize w45.drew = w46 at HO272 HO276 HO280 HO284 BK273 BK277 BK281 HB hHeld ⊢
        refine take_ (i := 1) (N := some 26) (v := ?_) (a' := ?_) #[false, true, false, false, false, false, false, false, false] rfl rfl (take_ofW HT_.out HW_.out (by kernel_rfl)) (fun _ _ _ h => h) (Or.inl ⟨by rfl, ?_⟩) hHeld ?_ ?_
        rotate_left
        ·rintro w' ⟨s0, s1, s2, s3⟩
         go_simp
         with_reducible rfl
        rotate_left
        ·simp only [Act.put, List.setIfInBounds_toArray, List.set_cons_zero, List.set_cons_succ, i64_w, i32_w]
         rfl
        refine take_ (i := 2) (N := some 27) (v := ?_) (a' := ?_) #[false, true, true, false, false, false, false, false, false] rfl rfl (take_ofW HT_.out HW_.out (by kernel_rfl)) (fun _ _ _ h => h) (Or.inl ⟨by rfl, ?_⟩) hHeld ?_ ?_
        rotate_left
        ·rintro w' ⟨s0, s1, s2, s3⟩
         go_simp
         with_reducible rfl
        rotate_left
        ·simp only [Act.put, List.setIfInBounds_toArray, List.set_cons_zero, List.set_cons_succ, i64_w, i32_w]
         rfl
        refine one_ (i := 0) (N := some 25) #[true, true, true, false, false, false, false, false, false] rfl rfl (one_of HT_.out (by kernel_rfl)) (by decide) (fun K hK => ?_)
        refine goes_ Tryd.func30 (by kernel_rfl) rfl #[] (by rfl) rfl rfl mA ?_
        with_reducible refine (quaerelaw7_words.calls  t287 _ A3.out).mono ?_
        rintro e w47 ⟨v288, rfl, ho0, hb⟩
        refine ⟨_, rfl, ?_⟩
        have n0_ := Aside0.mk (Kd.R_below (rK HO272) hb)
        have n1_ := Aside0.mk (Kd.R_below (rK HO276) hb)
        have n2_ := Aside0.mk (Kd.R_below (rK HO280) hb)
        have n3_ := Aside0.mk (Kd.R_elder' (rK HO284) (Kd.R_base ho0) hb)
        have n4_ := Aside0.mk (Kd.R_lower (Kd.R_new' ho0 (Kd.R_lt (rK HO284))) (below_size bS))
        have n5_ := Aside0.mk (blk_below (g := gb273) (o := .cells #[.bool false, .slice Ao25 y270.length co25] 25 (0, 0)) (bK BK273) hb)
        have n6_ := Aside0.mk (blk_below (g := gb277) (o := .cells #[.bool true, .slice Ao30 y274.length co30] 25 (0, 0)) (bK BK277) hb)
        have n7_ := Aside0.mk (blk_below (g := gb281) (o := .cells #[.bool false, .slice Ao36 y278.length co36] 25 (0, 0)) (bK BK281) hb)
        have n8_ := Aside0.mk (below_step bS hb)
        clear HO272 HO276 HO280 HO284 BK273 BK277 BK281 HB
        have HO272 := n0_
        have HO276 := n1_
        have HO280 := n2_
        have HO284 := n3_
        have HO289 := n4_
        have BK273 := n5_
        have BK277 := n6_
        have BK281 := n7_
        have HB := n8_
        clear n0_ n1_ n2_ n3_ n4_ n5_ n6_ n7_ n8_
        (try clear hb)
        (try clear hb2)
        (try clear hk)
        (try clear hi)
        (try clear ho0)
        obtain ⟨Ao48, co48, eo48⟩ := Kd.R_slice HO289.out
        (first | subst eo48 | (injection eo48 with f1_ f2_ f3_; have f4_ := f1_.symm; have f5_ := f3_.symm; clear f1_ f2_ f3_; subst f4_; subst f5_))
        refine hK.out _ _ ⟨(blk_cell BK277.out 0).trans rfl, (blk_cell BK277.out 1).trans rfl, (blk_cell BK273.out 0).trans rfl, (blk_cell BK273.out 1).trans rfl⟩ (fun hHeld => ?_)
        clear hK K
        refine norm_ (a' := ?_) ?_ ?_
        rotate_left
        ·show Act.put _ (some 25) _ = _
         simp only [Act.put, List.setIfInBounds_toArray, List.set_cons_zero, List.set_cons_succ, i64_w, i32_w]
         rfl
        refine one_ (i := 3) (N := some 28) #[true, true, true, true, false, false, false, false, false] rfl rfl (one_of HT_.out (by kernel_rfl)) (by decide) (fun K hK => ?_)
        refine goes_ Tryd.func12 (by kernel_rfl) rfl #[.slice Ao48 t287.length co48, .agg #[.bool true, .slice Ao30 y274.length co30], .agg #[.bool false, .slice Ao25 y270.length co25]] (by rfl) rfl rfl mA ?_
        with_reducible refine (lit_Compare.calls (hG := gK) k _ _ t287 true _ _ y274 false _ _ y270 t290 t291 _ ?side1 ?side2 ?side3 ?side4 ?side5 ?side6 A4.out).mono ?_
        (case side1 => exact cK ((Kd.R_reads' HO289.out).2.2))
        (case side2 => exact (Kd.R_reads' HO289.out).2.1)
        (case side3 => exact cK ((Kd.R_reads' HO276.out).2.2))
        (case side4 => exact (Kd.R_reads' HO276.out).2.1)
        (case side5 => exact cK ((Kd.R_reads' HO272.out).2.2))
        (case side6 => exact (Kd.R_reads' HO272.out).2.1)
        rintro e w49 ⟨rfl, hb⟩
        refine ⟨_, rfl, ?_⟩
        have n0_ := Aside0.mk (Kd.R_below (rK HO272) hb)
        have n1_ := Aside0.mk (Kd.R_below (rK HO276) hb)
        have n2_ := Aside0.mk (Kd.R_below (rK HO280) hb)
        have n3_ := Aside0.mk (Kd.R_below (rK HO284) hb)
        have n4_ := Aside0.mk (Kd.R_below (rK HO289) hb)
        have n5_ := Aside0.mk (blk_below (g := gb273) (o := .cells #[.bool false, .slice Ao25 y270.length co25] 25 (0, 0)) (bK BK273) hb)
        have n6_ := Aside0.mk (blk_below (g := gb277) (o := .cells #[.bool true, .slice Ao30 y274.length co30] 25 (0, 0)) (bK BK277) hb)
        have n7_ := Aside0.mk (blk_below (g := gb281) (o := .cells #[.bool false, .slice Ao36 y278.length co36] 25 (0, 0)) (bK BK281) hb)
        have n8_ := Aside0.mk (below_step bS hb)
        clear HO272 HO276 HO280 HO284 HO289 BK273 BK277 BK281 HB
        have HO272 := n0_
        have HO276 := n1_
        have HO280 := n2_
        have HO284 := n3_
        have HO289 := n4_
        have BK273 := n5_
        have BK277 := n6_
        have BK281 := n7_
        have HB := n8_
        clear n0_ n1_ n2_ n3_ n4_ n5_ n6_ n7_ n8_
        (try clear hb)
        (try clear hb2)
        (try clear hk)
        (try clear hi)
        refine hK.out _ _ ⟨(blk_cell BK277.out 0).trans rfl, (blk_cell BK277.out 1).trans rfl, (blk_cell BK273.out 0).trans rfl, (blk_cell BK273.out 1).trans rfl⟩ (fun hHeld => ?_)
        clear hK K
        refine norm_ (a' := ?_) ?_ ?_
        rotate_left
        ·show Act.put _ (some 28) _ = _
         simp only [Act.put, List.setIfInBounds_toArray, List.set_cons_zero, List.set_cons_succ, i64_w, i32_w]
         rfl
        refine pure_ (i := 4) (N := some 24) (v := ?_) (a' := ?_) #[true, true, true, true, true, false, false, false, false] rfl rfl (any_of HT_.out (by kernel_rfl)) (fun _ _ _ h => h) (Or.inl ⟨by rfl, ?_⟩) ?_ ?_
        rotate_left
        ·intro w'
         go_simp
         with_reducible rfl
        rotate_left
        ·simp only [Act.put, List.setIfInBounds_toArray, List.set_cons_zero, List.set_cons_succ, i64_w, i32_w]
         rfl
        refine pure_ (i := 5) (N := some 29) (v := ?_) (a' := ?_) #[true, true, true, true, true, true, false, false, false] rfl rfl (any_of HT_.out (by kernel_rfl)) (fun _ _ _ h => h) (Or.inl ⟨by rfl, ?_⟩) ?_ ?_
        rotate_left
        ·intro w'
         go_simp
         with_reducible rfl
        rotate_left
        ·simp only [Act.put, List.setIfInBounds_toArray, List.set_cons_zero, List.set_cons_succ, i64_w, i32_w]
         rfl
        refine pure_ (i := 6) (N := some 30) (v := ?_) (a' := ?_) #[true, true, true, true, true, true, true, false, false] rfl rfl (any_of HT_.out (by kernel_rfl)) (fun _ _ _ h => h) (Or.inl ⟨by rfl, ?_⟩) ?_ ?_
        rotate_left
        ·intro w'
         go_simp
         with_reducible rfl
        rotate_left
        ·simp only [Act.put, List.setIfInBounds_toArray, List.set_cons_zero, List.set_cons_succ, i64_w, i32_w]
         rfl
        refine pure_ (i := 7) (N := some 6) (v := ?_) (a' := ?_) #[true, true, true, true, true, true, true, true, false] rfl rfl (any_of HT_.out (by kernel_rfl)) (fun _ _ _ h => h) (Or.inl ⟨by rfl, ?_⟩) ?_ ?_
        rotate_left
        ·intro w'
         go_simp
         with_reducible rfl
        rotate_left
        ·simp only [Act.put, List.setIfInBounds_toArray, List.set_cons_zero, List.set_cons_succ, i64_w, i32_w]
         rfl
        refine pure_ (i := 8) (N := some 7) (v := ?_) (a' := ?_) #[true, true, true, true, true, true, true, true, true] rfl rfl (any_of HT_.out (by kernel_rfl)) (fun _ _ _ h => h) (Or.inl ⟨by rfl, ?_⟩) ?_ ?_
        rotate_left
        ·intro w'
         go_simp
         with_reducible rfl
        rotate_left
        ·simp only [Act.put, List.setIfInBounds_toArray, List.set_cons_zero, List.set_cons_succ, i64_w, i32_w]
         rfl
        refine done_ (done_of HT_.out (by kernel_rfl)) ?_
        try go_wp2
        have n0_ := Aside0.mk (Kd.R_drew HO272.out)
        have n1_ := Aside0.mk (Kd.R_drew HO276.out)
        have n2_ := Aside0.mk (Kd.R_drew HO280.out)
        have n3_ := Aside0.mk (Kd.R_drew HO284.out)
        have n4_ := Aside0.mk (Kd.R_drew HO289.out)
        have n5_ := Aside0.mk (blk_drew BK273.out)
        have n6_ := Aside0.mk (blk_drew BK277.out)
        have n7_ := Aside0.mk (blk_drew BK281.out)
        have n8_ := Aside0.mk (below_drew1 HB.out)
        clear HO272 HO276 HO280 HO284 HO289 BK273 BK277 BK281 HB
        have HO272 := n0_
        have HO276 := n1_
        have HO280 := n2_
        have HO284 := n3_
        have HO289 := n4_
        have BK273 := n5_
        have BK277 := n6_
        have BK281 := n7_
        have HB := n8_
        clear n0_ n1_ n2_ n3_ n4_ n5_ n6_ n7_ n8_
        refine start_ (n := 11) (S := fun w' => True) (ds := []) #[false, false, false, false, false, false, false, false, false, false, false] (by kernel_rfl) rfl rfl trivial (fun hHeld => ?_); refine with_tabW quaerelaw7_awake.tab6 quaerelaw7_awake.bits6 (fun HT_ HW_ => ?_)
        generalize w49.drew = w50 at HO272 HO276 HO280 HO284 HO289 BK273 BK277 BK281 HB hHeld ⊢
        have hC282 : Kd.C (Kd.int .i64) w50 Ao25 y270.length y270 := (Kd.R_reads' HO272.out).2.2
        have hL282 := (Kd.R_reads' HO272.out).2.1
        refine inv_at [0, 1, 2, 3, 4, 5, 6, 7, 8, 9, 10] (fun a0_ b a w' => ∃ (v293 : Value) (v296 : Value) (v300 : Value) (m5_ : Value) (m6_ : Value) (m7_ : Value) (m9_ : Value), a = putSel a0_ b [(0, 32, v293), (1, 33, .agg #[.bool false, .slice Ao25 y270.length co25]), (2, 34, .agg #[.bool true, .slice Ao30 y274.length co30]), (3, 35, .agg #[.bool false, .slice Ao36 y278.length co36]), (4, 36, v296), (5, 37, m5_), (6, 31, m6_), (7, 38, m7_), (8, 39, .int .i64 t299), (9, 8, m9_), (10, 9, .int .i64 t299)] ∧ (b 4 = false → Kd.R (Kd.int .i64) 3 w' w.heap.size (fun k_ => some k_ ≠ (.slice Ao30 y274.length co30 : Value).ownBlock ∧ some k_ ≠ (.slice Ao36 y278.length co36 : Value).ownBlock) (.slice Ao25 y270.length co25) y270) ∧ (b 4 = false → Kd.R (Kd.int .i64) 3 w' w.heap.size (fun k_ => some k_ ≠ (.slice Ao25 y270.length co25 : Value).ownBlock ∧ some k_ ≠ (.slice Ao36 y278.length co36 : Value).ownBlock) (.slice Ao30 y274.length co30) y274) ∧ (b 4 = false → Kd.R (Kd.int .i64) 3 w' w.heap.size (fun k_ => some k_ ≠ (.slice Ao25 y270.length co25 : Value).ownBlock ∧ some k_ ≠ (.slice Ao30 y274.length co30 : Value).ownBlock) (.slice Ao36 y278.length co36) y278) ∧ (Kd.R k58 58 w' w.heap.size (fun k_ => True ∧ some k_ ≠ (.slice Ao48 t287.length co48 : Value).ownBlock) (.slice Ao44 t282.length co44) t282) ∧ (Kd.R k58 58 w' w.heap.size (fun k_ => True ∧ some k_ ≠ (.slice Ao44 t282.length co44 : Value).ownBlock) (.slice Ao48 t287.length co48) t287) ∧ (w'.heap[gb273]? = some (.cells #[.bool false, .slice Ao25 y270.length co25] 25 (0, 0))) ∧ (w'.heap[gb277]? = some (.cells #[.bool true, .slice Ao30 y274.length co30] 25 (0, 0))) ∧ (w'.heap[gb281]? = some (.cells #[.bool false, .slice Ao36 y278.length co36] 25 (0, 0))) ∧ (Below w.heap.size w w') ∧ (Below w50.heap.size w50 w') ∧ (b 0 = true → Kd.R k58 58 w' w.heap.size (fun k_ => some k_ ≠ (.slice Ao44 t282.length co44 : Value).ownBlock ∧ some k_ ≠ (.slice Ao48 t287.length co48 : Value).ownBlock) v293 t292) ∧ (b 4 = true → Kd.N k25 25 w' w.heap.size (fun k_ => some k_ ≠ (.slice Ao44 t282.length co44 : Value).ownBlock ∧ some k_ ≠ (.slice Ao48 t287.length co48 : Value).ownBlock ∧ k_ ≠ gb273 ∧ k_ ≠ gb277 ∧ k_ ≠ gb281) v296 y295) ∧ (b 5 = true → Kd.R (Kd.int .i64) 3 w' w.heap.size (fun _ => True) v300 t298) ∧ (b 5 = true → (m5_ : Value) = .tuple #[v300, .int .i64 t299]) ∧ (b 6 = true → (m6_ : Value) = .tuple #[v300, .int .i64 t299]) ∧ (b 7 = true → (m7_ : Value) = v300) ∧ (b 9 = true → (m9_ : Value) = v300)) HT_.out HW_.out (by kernel_rfl) (by kernel_rfl) ?_ ?_ ?_
        ·exact ⟨.bool false, .bool false, .bool false, .bool false, .bool false, .bool false, .bool false, by simp only [putSel, Bool.false_eq_true, if_false], fun _ => HO272.out, fun _ => HO276.out, fun _ => HO280.out, HO284.out, HO289.out, BK273.out, BK277.out, BK281.out, HB.out, Below.refl _ _, fun h_ => absurd h_ (by decide), fun h_ => absurd h_ (by decide), fun h_ => absurd h_ (by decide), fun h_ => absurd h_ (by decide), fun h_ => absurd h_ (by decide), fun h_ => absurd h_ (by decide), fun h_ => absurd h_ (by decide)⟩
        ·skip
         clear BK273 BK277 BK281 HB HO272 HO276 HO280 HO284 HO289
         refine steps_cons ?_ ?_
         ·rintro b a w' ⟨v293, v296, v300, m5_, m6_, m7_, m9_, ha, Q_HO272, Q_HO276, Q_HO280, Q_HO284, Q_HO289, Q_BK273, Q_BK277, Q_BK281, Q_HB, Q_HC, Q_HO294, Q_HO297, Q_HO301, Q_X5_, Q_X6_, Q_X7_, Q_X9_⟩ hb_ hon hoff
          refine ⟨_, rfl, fun K hK => ?_⟩
          replace ha := Aside0.mk ha
          have HO284 := Aside0.mk Q_HO284
          have HO289 := Aside0.mk Q_HO289
          have BK273 := Aside0.mk Q_BK273
          have BK277 := Aside0.mk Q_BK277
          have BK281 := Aside0.mk Q_BK281
          have HB := Aside0.mk Q_HB
          have HC := Aside0.mk Q_HC
          refine goes_ Tryd.func30 (by kernel_rfl) rfl #[] (by rfl) rfl rfl (by first | (simp only [List.map_toArray, List.map_cons, List.map_nil, Act.eval, Array.getD_eq_getD_getElem?, Option.getD_some]; done) | (simp only [List.map_toArray, List.map_cons, List.map_nil, Act.eval, Array.getD_eq_getD_getElem?, Option.getD_some]; rfl)) ?_
          with_reducible refine (quaerelaw7_words.calls  t292 _ A5.out).mono ?_
          rintro e w51 ⟨v293, rfl, ho0, hb⟩
          refine ⟨_, rfl, ?_⟩
          have n3_ := Aside0.mk (Kd.R_elder' (rK HO284) (Kd.R_base ho0) hb)
          have n4_ := Aside0.mk (Kd.R_elder' (rK HO289) (Kd.R_base ho0) hb)
          have n5_ := Aside0.mk (Kd.R_lower (Kd.R_new' (Kd.R_new' ho0 (Kd.R_lt (rK HO284))) (Kd.R_lt (rK HO289))) (below_size bS))
          have n6_ := Aside0.mk (blk_below (g := gb273) (o := .cells #[.bool false, .slice Ao25 y270.length co25] 25 (0, 0)) (bK BK273) hb)
          have n7_ := Aside0.mk (blk_below (g := gb277) (o := .cells #[.bool true, .slice Ao30 y274.length co30] 25 (0, 0)) (bK BK277) hb)
          have n8_ := Aside0.mk (blk_below (g := gb281) (o := .cells #[.bool false, .slice Ao36 y278.length co36] 25 (0, 0)) (bK BK281) hb)
          have n9_ := Aside0.mk (below_step bS hb)
          have mHC_ := Aside0.mk (below_step (by repeat (first | (with_reducible first | exact HC.out | apply below_alloc | apply pw_below_drewN | apply below_drew1 | refine below_set ?_ GE273.out | refine below_set ?_ GE277.out | refine below_set ?_ GE281.out) | exact HC.out)) hb)
          have z_HO272 := fun (h0_ : b 4 = false) => (show Kd.R (Kd.int .i64) 3 w51 w.heap.size (fun k_ => some k_ ≠ (.slice Ao30 y274.length co30 : Value).ownBlock ∧ some k_ ≠ (.slice Ao36 y278.length co36 : Value).ownBlock) (.slice Ao25 y270.length co25) y270 from by first | exact (Kd.R_below (by (with_reducible repeat (first | apply Kd.R_alloc | apply Kd.R_drewN | apply Kd.R_drew)); exact (Q_HO272 h0_)) hb) | exact Kd.R_mono (Kd.R_below (by (with_reducible repeat (first | apply Kd.R_alloc | apply Kd.R_drewN | apply Kd.R_drew)); exact (Q_HO272 h0_)) hb) (fun _ h_ => by first | trivial | exact h_ | exact h_.1))
          have z_HO276 := fun (h0_ : b 4 = false) => (show Kd.R (Kd.int .i64) 3 w51 w.heap.size (fun k_ => some k_ ≠ (.slice Ao25 y270.length co25 : Value).ownBlock ∧ some k_ ≠ (.slice Ao36 y278.length co36 : Value).ownBlock) (.slice Ao30 y274.length co30) y274 from by first | exact (Kd.R_below (by (with_reducible repeat (first | apply Kd.R_alloc | apply Kd.R_drewN | apply Kd.R_drew)); exact (Q_HO276 h0_)) hb) | exact Kd.R_mono (Kd.R_below (by (with_reducible repeat (first | apply Kd.R_alloc | apply Kd.R_drewN | apply Kd.R_drew)); exact (Q_HO276 h0_)) hb) (fun _ h_ => by first | trivial | exact h_ | exact h_.1))
          have z_HO280 := fun (h0_ : b 4 = false) => (show Kd.R (Kd.int .i64) 3 w51 w.heap.size (fun k_ => some k_ ≠ (.slice Ao25 y270.length co25 : Value).ownBlock ∧ some k_ ≠ (.slice Ao30 y274.length co30 : Value).ownBlock) (.slice Ao36 y278.length co36) y278 from by first | exact (Kd.R_below (by (with_reducible repeat (first | apply Kd.R_alloc | apply Kd.R_drewN | apply Kd.R_drew)); exact (Q_HO280 h0_)) hb) | exact Kd.R_mono (Kd.R_below (by (with_reducible repeat (first | apply Kd.R_alloc | apply Kd.R_drewN | apply Kd.R_drew)); exact (Q_HO280 h0_)) hb) (fun _ h_ => by first | trivial | exact h_ | exact h_.1))
          have z_HO297 := fun (h0_ : b 4 = true) => (show Kd.N k25 25 w51 w.heap.size (fun k_ => some k_ ≠ (.slice Ao44 t282.length co44 : Value).ownBlock ∧ some k_ ≠ (.slice Ao48 t287.length co48 : Value).ownBlock ∧ k_ ≠ gb273 ∧ k_ ≠ gb277 ∧ k_ ≠ gb281) v296 y295 from by first | exact (Kd.N_elder' (by (with_reducible repeat (first | apply Kd.N_alloc | apply Kd.N_drewN | apply Kd.N_drew)); exact (Q_HO297 h0_)) (Kd.R_base ho0) hb) | exact Kd.N_mono (Kd.N_elder' (by (with_reducible repeat (first | apply Kd.N_alloc | apply Kd.N_drewN | apply Kd.N_drew)); exact (Q_HO297 h0_)) (Kd.R_base ho0) hb) (fun _ h_ => by first | trivial | exact h_ | exact h_.1))
          clear HO284 HO289 BK273 BK277 BK281
          (try clear HC)
          clear HB
          have HO284 := n3_
          have HO289 := n4_
          have HO294 := n5_
          have BK273 := n6_
          have BK277 := n7_
          have BK281 := n8_
          have HB := n9_
          have HC := mHC_
          clear n3_ n4_ n5_ n6_ n7_ n8_ n9_
          (try clear hb)
          (try clear hb2)
          (try clear hk)
          (try clear hi)
          (try clear ho0)
          refine hK.out _ _ ⟨v293, v296, v300, m5_, m6_, m7_, m9_, (by rw [ha.out]; exact putSel_upk 0 hb_ rfl rfl rfl), z_HO272, z_HO276, z_HO280, (by (with_reducible repeat (first | apply Kd.R_alloc | apply Kd.R_drewN | apply Kd.R_drew)); exact Kd.R_mono HO284.out (fun _ hk => hk.1)), (by (with_reducible repeat (first | apply Kd.R_alloc | apply Kd.R_drewN | apply Kd.R_drew)); exact Kd.R_mono HO289.out (fun _ hk => hk.1)), (bK BK273), (bK BK277), (bK BK281), bS, (by repeat (first | (with_reducible first | exact HC.out | apply below_alloc | apply pw_below_drewN | apply below_drew1 | refine below_set ?_ GE273.out | refine below_set ?_ GE277.out | refine below_set ?_ GE281.out) | exact HC.out)), fun _ => (by (with_reducible repeat (first | apply Kd.R_alloc | apply Kd.R_drewN | apply Kd.R_drew)); exact Kd.R_mono HO294.out (fun _ hk => ⟨hk.1.2, hk.2⟩)), z_HO297, fun h0_ => absurd ((hoff 5 (by kernel_rfl)).symm.trans h0_) (by decide), fun h0_ => absurd ((hoff 5 (by kernel_rfl)).symm.trans h0_) (by decide), fun h0_ => absurd ((hoff 6 (by kernel_rfl)).symm.trans h0_) (by decide), fun h0_ => absurd ((hoff 7 (by kernel_rfl)).symm.trans h0_) (by decide), fun h0_ => absurd ((hoff 9 (by kernel_rfl)).symm.trans h0_) (by decide)⟩
         refine steps_cons ?_ ?_
         ·rintro b a w' ⟨v293, v296, v300, m5_, m6_, m7_, m9_, ha, Q_HO272, Q_HO276, Q_HO280, Q_HO284, Q_HO289, Q_BK273, Q_BK277, Q_BK281, Q_HB, Q_HC, Q_HO294, Q_HO297, Q_HO301, Q_X5_, Q_X6_, Q_X7_, Q_X9_⟩ hb_ hon hoff
          refine ⟨_, rfl, fun K hK => ?_⟩
          have e1 : a.tmps[1]? = some (.pointer (some ⟨gb273, 0, none⟩)) := by rw [ha]; exact (putSel_off rfl).trans rfl
          replace ha := Aside0.mk ha
          have HO272 := Aside0.mk (Q_HO272 (hoff 4 (by kernel_rfl)))
          have HO276 := Aside0.mk (Q_HO276 (hoff 4 (by kernel_rfl)))
          have HO280 := Aside0.mk (Q_HO280 (hoff 4 (by kernel_rfl)))
          have HO284 := Aside0.mk Q_HO284
          have HO289 := Aside0.mk Q_HO289
          have BK273 := Aside0.mk Q_BK273
          have BK277 := Aside0.mk Q_BK277
          have BK281 := Aside0.mk Q_BK281
          have HB := Aside0.mk Q_HB
          have HC := Aside0.mk Q_HC
          have hc0_ : w'.cell? ⟨gb273, 0, none⟩ = some (.bool false) := (blk_cell BK273.out 0).trans rfl
          have hc1_ : w'.cell? ⟨gb273, 1, none⟩ = some (.slice Ao25 y270.length co25) := (blk_cell BK273.out 1).trans rfl
          refine value_ (w1 := w') (v := .agg #[.bool false, .slice Ao25 y270.length co25]) (by rfl) rfl ?_ ?_
          ·go_simp
           (try simp only [i64_w])
           try rfl
          refine hK.out _ _ ⟨v293, v296, v300, m5_, m6_, m7_, m9_, (by rw [ha.out]; exact putSel_upk 1 hb_ rfl rfl rfl), Q_HO272, Q_HO276, Q_HO280, Q_HO284, Q_HO289, Q_BK273, Q_BK277, Q_BK281, Q_HB, Q_HC, Q_HO294, fun h0_ => absurd ((hoff 4 (by kernel_rfl)).symm.trans h0_) (by decide), fun h0_ => absurd ((hoff 5 (by kernel_rfl)).symm.trans h0_) (by decide), fun h0_ => absurd ((hoff 5 (by kernel_rfl)).symm.trans h0_) (by decide), fun h0_ => absurd ((hoff 6 (by kernel_rfl)).symm.trans h0_) (by decide), fun h0_ => absurd ((hoff 7 (by kernel_rfl)).symm.trans h0_) (by decide), fun h0_ => absurd ((hoff 9 (by kernel_rfl)).symm.trans h0_) (by decide)⟩
         refine steps_cons ?_ ?_
         ·rintro b a w' ⟨v293, v296, v300, m5_, m6_, m7_, m9_, ha, Q_HO272, Q_HO276, Q_HO280, Q_HO284, Q_HO289, Q_BK273, Q_BK277, Q_BK281, Q_HB, Q_HC, Q_HO294, Q_HO297, Q_HO301, Q_X5_, Q_X6_, Q_X7_, Q_X9_⟩ hb_ hon hoff
          refine ⟨_, rfl, fun K hK => ?_⟩
          have e2 : a.tmps[2]? = some (.pointer (some ⟨gb277, 0, none⟩)) := by rw [ha]; exact (putSel_off rfl).trans rfl
          replace ha := Aside0.mk ha
          have HO272 := Aside0.mk (Q_HO272 (hoff 4 (by kernel_rfl)))
          have HO276 := Aside0.mk (Q_HO276 (hoff 4 (by kernel_rfl)))
          have HO280 := Aside0.mk (Q_HO280 (hoff 4 (by kernel_rfl)))
          have HO284 := Aside0.mk Q_HO284
          have HO289 := Aside0.mk Q_HO289
          have BK273 := Aside0.mk Q_BK273
          have BK277 := Aside0.mk Q_BK277
          have BK281 := Aside0.mk Q_BK281
          have HB := Aside0.mk Q_HB
          have HC := Aside0.mk Q_HC
          have hc0_ : w'.cell? ⟨gb277, 0, none⟩ = some (.bool true) := (blk_cell BK277.out 0).trans rfl
          have hc1_ : w'.cell? ⟨gb277, 1, none⟩ = some (.slice Ao30 y274.length co30) := (blk_cell BK277.out 1).trans rfl
          refine value_ (w1 := w') (v := .agg #[.bool true, .slice Ao30 y274.length co30]) (by rfl) rfl ?_ ?_
          ·go_simp
           (try simp only [i64_w])
           try rfl
          refine hK.out _ _ ⟨v293, v296, v300, m5_, m6_, m7_, m9_, (by rw [ha.out]; exact putSel_upk 2 hb_ rfl rfl rfl), Q_HO272, Q_HO276, Q_HO280, Q_HO284, Q_HO289, Q_BK273, Q_BK277, Q_BK281, Q_HB, Q_HC, Q_HO294, fun h0_ => absurd ((hoff 4 (by kernel_rfl)).symm.trans h0_) (by decide), fun h0_ => absurd ((hoff 5 (by kernel_rfl)).symm.trans h0_) (by decide), fun h0_ => absurd ((hoff 5 (by kernel_rfl)).symm.trans h0_) (by decide), fun h0_ => absurd ((hoff 6 (by kernel_rfl)).symm.trans h0_) (by decide), fun h0_ => absurd ((hoff 7 (by kernel_rfl)).symm.trans h0_) (by decide), fun h0_ => absurd ((hoff 9 (by kernel_rfl)).symm.trans h0_) (by decide)⟩
         refine steps_cons ?_ ?_
         ·rintro b a w' ⟨v293, v296, v300, m5_, m6_, m7_, m9_, ha, Q_HO272, Q_HO276, Q_HO280, Q_HO284, Q_HO289, Q_BK273, Q_BK277, Q_BK281, Q_HB, Q_HC, Q_HO294, Q_HO297, Q_HO301, Q_X5_, Q_X6_, Q_X7_, Q_X9_⟩ hb_ hon hoff
          refine ⟨_, rfl, fun K hK => ?_⟩
          have e3 : a.tmps[3]? = some (.pointer (some ⟨gb281, 0, none⟩)) := by rw [ha]; exact (putSel_off rfl).trans rfl
          replace ha := Aside0.mk ha
          have HO272 := Aside0.mk (Q_HO272 (hoff 4 (by kernel_rfl)))
          have HO276 := Aside0.mk (Q_HO276 (hoff 4 (by kernel_rfl)))
          have HO280 := Aside0.mk (Q_HO280 (hoff 4 (by kernel_rfl)))
          have HO284 := Aside0.mk Q_HO284
          have HO289 := Aside0.mk Q_HO289
          have BK273 := Aside0.mk Q_BK273
          have BK277 := Aside0.mk Q_BK277
          have BK281 := Aside0.mk Q_BK281
          have HB := Aside0.mk Q_HB
          have HC := Aside0.mk Q_HC
          have hc0_ : w'.cell? ⟨gb281, 0, none⟩ = some (.bool false) := (blk_cell BK281.out 0).trans rfl
          have hc1_ : w'.cell? ⟨gb281, 1, none⟩ = some (.slice Ao36 y278.length co36) := (blk_cell BK281.out 1).trans rfl
          refine value_ (w1 := w') (v := .agg #[.bool false, .slice Ao36 y278.length co36]) (by rfl) rfl ?_ ?_
          ·go_simp
           (try simp only [i64_w])
           try rfl
          refine hK.out _ _ ⟨v293, v296, v300, m5_, m6_, m7_, m9_, (by rw [ha.out]; exact putSel_upk 3 hb_ rfl rfl rfl), Q_HO272, Q_HO276, Q_HO280, Q_HO284, Q_HO289, Q_BK273, Q_BK277, Q_BK281, Q_HB, Q_HC, Q_HO294, fun h0_ => absurd ((hoff 4 (by kernel_rfl)).symm.trans h0_) (by decide), fun h0_ => absurd ((hoff 5 (by kernel_rfl)).symm.trans h0_) (by decide), fun h0_ => absurd ((hoff 5 (by kernel_rfl)).symm.trans h0_) (by decide), fun h0_ => absurd ((hoff 6 (by kernel_rfl)).symm.trans h0_) (by decide), fun h0_ => absurd ((hoff 7 (by kernel_rfl)).symm.trans h0_) (by decide), fun h0_ => absurd ((hoff 9 (by kernel_rfl)).symm.trans h0_) (by decide)⟩
         refine steps_cons ?_ ?_
         ·rintro b a w' ⟨v293, v296, v300, m5_, m6_, m7_, m9_, ha, Q_HO272, Q_HO276, Q_HO280, Q_HO284, Q_HO289, Q_BK273, Q_BK277, Q_BK281, Q_HB, Q_HC, Q_HO294, Q_HO297, Q_HO301, Q_X5_, Q_X6_, Q_X7_, Q_X9_⟩ hb_ hon hoff
          refine ⟨_, rfl, fun K hK => ?_⟩
          have e33 : a.tmps[33]? = some (.agg #[.bool false, .slice Ao25 y270.length co25]) := by rw [ha]; exact putSel_on (e := (1, 33, .agg #[.bool false, .slice Ao25 y270.length co25])) 1 rfl rfl (hon 1 (by kernel_rfl)) rfl
          have e34 : a.tmps[34]? = some (.agg #[.bool true, .slice Ao30 y274.length co30]) := by rw [ha]; exact putSel_on (e := (2, 34, .agg #[.bool true, .slice Ao30 y274.length co30])) 2 rfl rfl (hon 2 (by kernel_rfl)) rfl
          have e35 : a.tmps[35]? = some (.agg #[.bool false, .slice Ao36 y278.length co36]) := by rw [ha]; exact putSel_on (e := (3, 35, .agg #[.bool false, .slice Ao36 y278.length co36])) 3 rfl rfl (hon 3 (by kernel_rfl)) rfl
          replace ha := Aside0.mk ha
          have HO272 := Aside0.mk (Q_HO272 hb_)
          have HO276 := Aside0.mk (Q_HO276 hb_)
          have HO280 := Aside0.mk (Q_HO280 hb_)
          have HO284 := Aside0.mk Q_HO284
          have HO289 := Aside0.mk Q_HO289
          have BK273 := Aside0.mk Q_BK273
          have BK277 := Aside0.mk Q_BK277
          have BK281 := Aside0.mk Q_BK281
          have HB := Aside0.mk Q_HB
          have HC := Aside0.mk Q_HC
          refine Kd.N_lit_step k25 _ 25 ?hg (N' := 36) ?hd (xs := ([(⟨false, y270⟩ : S25), (⟨true, y274⟩ : S25), (⟨false, y278⟩ : S25)] : List (S25))) (inner := [.bool false, .slice Ao25 y270.length co25, .bool true, .slice Ao30 y274.length co30, .bool false, .slice Ao36 y278.length co36]) (ok := (fun k_ => some k_ ≠ (.slice Ao44 t282.length co44 : Value).ownBlock ∧ some k_ ≠ (.slice Ao48 t287.length co48 : Value).ownBlock ∧ k_ ≠ gb273 ∧ k_ ≠ gb277 ∧ k_ ≠ gb281)) (okp := (fun k_ => some k_ ≠ (.slice Ao44 t282.length co44 : Value).ownBlock ∧ some k_ ≠ (.slice Ao48 t287.length co48 : Value).ownBlock ∧ k_ ≠ gb273 ∧ k_ ≠ gb277 ∧ k_ ≠ gb281)) ?hr ?hp (fun _ hk => hk) ((show ∀ k_, w'.heap.size ≤ k_ → (fun k_ => some k_ ≠ (.slice Ao44 t282.length co44 : Value).ownBlock ∧ some k_ ≠ (.slice Ao48 t287.length co48 : Value).ownBlock ∧ k_ ≠ gb273 ∧ k_ ≠ gb277 ∧ k_ ≠ gb281) k_ from fun k_ hk => ⟨Kd.fresh' (Kd.R_lt (rK HO284)) k_ hk, Kd.fresh' (Kd.R_lt (rK HO289)) k_ hk, Kd.freshB (g := gb273) (o := .cells #[.bool false, .slice Ao25 y270.length co25] 25 (0, 0)) (bK BK273) k_ hk, Kd.freshB (g := gb277) (o := .cells #[.bool true, .slice Ao30 y274.length co30] 25 (0, 0)) (bK BK277) k_ hk, Kd.freshB (g := gb281) (o := .cells #[.bool false, .slice Ao36 y278.length co36] 25 (0, 0)) (bK BK281) k_ hk⟩) _ (Nat.le_refl _)) (Below.refl _ _) (Nat.le_refl _) (by simp) ?_; (case hd => rfl); (case hg => rfl); (case hr => first | (go_simp; done) | (go_simp; rfl)); (case hp => exact (Reps.c2 (show Kd.FK k25 _ _ (⟨false, y270⟩ : S25) [.bool false, .slice Ao25 y270.length co25] from (k25_mkF _ _ (⟨false, y270⟩ : S25) (Kd.R_reads' (Kd.R_mono (ok' := (fun k_ => some k_ ≠ (.slice Ao44 t282.length co44 : Value).ownBlock ∧ some k_ ≠ (.slice Ao48 t287.length co48 : Value).ownBlock ∧ k_ ≠ gb273 ∧ k_ ≠ gb277 ∧ k_ ≠ gb281)) (Kd.R_types (Kd.R_types (Kd.R_types (Kd.R_apart' (Kd.R_apart' (HO272.out) (Kd.R_typed HO284.out) (by decide)) (Kd.R_typed HO289.out) (by decide)) BK273.out (by decide)) BK277.out (by decide)) BK281.out (by decide)) (fun k_ hk => ⟨hk.1.1.1.1.2, ⟨hk.1.1.1.2, ⟨hk.1.1.2, ⟨hk.1.2, hk.2⟩⟩⟩⟩))).2.1 (Kd.R_F (Kd.R_mono (ok' := (fun k_ => some k_ ≠ (.slice Ao44 t282.length co44 : Value).ownBlock ∧ some k_ ≠ (.slice Ao48 t287.length co48 : Value).ownBlock ∧ k_ ≠ gb273 ∧ k_ ≠ gb277 ∧ k_ ≠ gb281)) (Kd.R_types (Kd.R_types (Kd.R_types (Kd.R_apart' (Kd.R_apart' (HO272.out) (Kd.R_typed HO284.out) (by decide)) (Kd.R_typed HO289.out) (by decide)) BK273.out (by decide)) BK277.out (by decide)) BK281.out (by decide)) (fun k_ hk => ⟨hk.1.1.1.1.2, ⟨hk.1.1.1.2, ⟨hk.1.1.2, ⟨hk.1.2, hk.2⟩⟩⟩⟩))))) (Reps.c2 (show Kd.FK k25 _ _ (⟨true, y274⟩ : S25) [.bool true, .slice Ao30 y274.length co30] from (k25_mkF _ _ (⟨true, y274⟩ : S25) (Kd.R_reads' (Kd.R_mono (ok' := (fun k_ => some k_ ≠ (.slice Ao44 t282.length co44 : Value).ownBlock ∧ some k_ ≠ (.slice Ao48 t287.length co48 : Value).ownBlock ∧ k_ ≠ gb273 ∧ k_ ≠ gb277 ∧ k_ ≠ gb281)) (Kd.R_types (Kd.R_types (Kd.R_types (Kd.R_apart' (Kd.R_apart' (HO276.out) (Kd.R_typed HO284.out) (by decide)) (Kd.R_typed HO289.out) (by decide)) BK273.out (by decide)) BK277.out (by decide)) BK281.out (by decide)) (fun k_ hk => ⟨hk.1.1.1.1.2, ⟨hk.1.1.1.2, ⟨hk.1.1.2, ⟨hk.1.2, hk.2⟩⟩⟩⟩))).2.1 (Kd.R_F (Kd.R_mono (ok' := (fun k_ => some k_ ≠ (.slice Ao44 t282.length co44 : Value).ownBlock ∧ some k_ ≠ (.slice Ao48 t287.length co48 : Value).ownBlock ∧ k_ ≠ gb273 ∧ k_ ≠ gb277 ∧ k_ ≠ gb281)) (Kd.R_types (Kd.R_types (Kd.R_types (Kd.R_apart' (Kd.R_apart' (HO276.out) (Kd.R_typed HO284.out) (by decide)) (Kd.R_typed HO289.out) (by decide)) BK273.out (by decide)) BK277.out (by decide)) BK281.out (by decide)) (fun k_ hk => ⟨hk.1.1.1.1.2, ⟨hk.1.1.1.2, ⟨hk.1.1.2, ⟨hk.1.2, hk.2⟩⟩⟩⟩))))) (Reps.c2 (show Kd.FK k25 _ _ (⟨false, y278⟩ : S25) [.bool false, .slice Ao36 y278.length co36] from (k25_mkF _ _ (⟨false, y278⟩ : S25) (Kd.R_reads' (Kd.R_mono (ok' := (fun k_ => some k_ ≠ (.slice Ao44 t282.length co44 : Value).ownBlock ∧ some k_ ≠ (.slice Ao48 t287.length co48 : Value).ownBlock ∧ k_ ≠ gb273 ∧ k_ ≠ gb277 ∧ k_ ≠ gb281)) (Kd.R_types (Kd.R_types (Kd.R_types (Kd.R_apart' (Kd.R_apart' (HO280.out) (Kd.R_typed HO284.out) (by decide)) (Kd.R_typed HO289.out) (by decide)) BK273.out (by decide)) BK277.out (by decide)) BK281.out (by decide)) (fun k_ hk => ⟨hk.1.1.1.1.2, ⟨hk.1.1.1.2, ⟨hk.1.1.2, ⟨hk.1.2, hk.2⟩⟩⟩⟩))).2.1 (Kd.R_F (Kd.R_mono (ok' := (fun k_ => some k_ ≠ (.slice Ao44 t282.length co44 : Value).ownBlock ∧ some k_ ≠ (.slice Ao48 t287.length co48 : Value).ownBlock ∧ k_ ≠ gb273 ∧ k_ ≠ gb277 ∧ k_ ≠ gb281)) (Kd.R_types (Kd.R_types (Kd.R_types (Kd.R_apart' (Kd.R_apart' (HO280.out) (Kd.R_typed HO284.out) (by decide)) (Kd.R_typed HO289.out) (by decide)) BK273.out (by decide)) BK277.out (by decide)) BK281.out (by decide)) (fun k_ hk => ⟨hk.1.1.1.1.2, ⟨hk.1.1.1.2, ⟨hk.1.1.2, ⟨hk.1.2, hk.2⟩⟩⟩⟩))))) (Reps.none _ _)))))
          intro v296 w51 ho52 hb hg_ hnew_
          clear hg_ hnew_
          (first | rw [← Ny295.out] at ho52 | (simp only [Int.reduceToNat] at ho52; rw [← Ny295.out] at ho52))
          have n0_ := Aside0.mk (Kd.R_below (rK HO284) hb)
          have n1_ := Aside0.mk (Kd.R_below (rK HO289) hb)
          have n2_ := Aside0.mk (Kd.N_lower ho52 (below_size bS))
          have n3_ := Aside0.mk (blk_below (g := gb273) (o := .cells #[.bool false, .slice Ao25 y270.length co25] 25 (0, 0)) (bK BK273) hb)
          have n4_ := Aside0.mk (blk_below (g := gb277) (o := .cells #[.bool true, .slice Ao30 y274.length co30] 25 (0, 0)) (bK BK277) hb)
          have n5_ := Aside0.mk (blk_below (g := gb281) (o := .cells #[.bool false, .slice Ao36 y278.length co36] 25 (0, 0)) (bK BK281) hb)
          have n6_ := Aside0.mk (below_step bS hb)
          have mHC_ := Aside0.mk (below_step (by repeat (first | (with_reducible first | exact HC.out | apply below_alloc | apply pw_below_drewN | apply below_drew1 | refine below_set ?_ GE273.out | refine below_set ?_ GE277.out | refine below_set ?_ GE281.out) | exact HC.out)) hb)
          have z_HO294 := fun (h0_ : b 0 = true) => (show Kd.R k58 58 w51 w.heap.size (fun k_ => some k_ ≠ (.slice Ao44 t282.length co44 : Value).ownBlock ∧ some k_ ≠ (.slice Ao48 t287.length co48 : Value).ownBlock) v293 t292 from by first | exact (Kd.R_below (by (with_reducible repeat (first | apply Kd.R_alloc | apply Kd.R_drewN | apply Kd.R_drew)); exact (Q_HO294 h0_)) hb) | exact Kd.R_mono (Kd.R_below (by (with_reducible repeat (first | apply Kd.R_alloc | apply Kd.R_drewN | apply Kd.R_drew)); exact (Q_HO294 h0_)) hb) (fun _ h_ => by first | trivial | exact h_ | exact h_.1))
          clear HO284 HO289 BK273 BK277 BK281
          (try clear HC)
          clear HB HO272 HO276 HO280
          have HO284 := n0_
          have HO289 := n1_
          have HO297 := n2_
          have BK273 := n3_
          have BK277 := n4_
          have BK281 := n5_
          have HB := n6_
          have HC := mHC_
          clear n0_ n1_ n2_ n3_ n4_ n5_ n6_ hb ho52
          refine hK.out _ _ ⟨v293, v296, v300, m5_, m6_, m7_, m9_, (by rw [ha.out]; exact putSel_upk 4 hb_ rfl rfl rfl), fun h0_ => absurd ((up_self b 4).symm.trans h0_) (by decide), fun h0_ => absurd ((up_self b 4).symm.trans h0_) (by decide), fun h0_ => absurd ((up_self b 4).symm.trans h0_) (by decide), (rK HO284), (rK HO289), (bK BK273), (bK BK277), (bK BK281), bS, (by repeat (first | (with_reducible first | exact HC.out | apply below_alloc | apply pw_below_drewN | apply below_drew1 | refine below_set ?_ GE273.out | refine below_set ?_ GE277.out | refine below_set ?_ GE281.out) | exact HC.out)), z_HO294, fun _ => (nK HO297), fun h0_ => absurd ((hoff 5 (by kernel_rfl)).symm.trans h0_) (by decide), fun h0_ => absurd ((hoff 5 (by kernel_rfl)).symm.trans h0_) (by decide), fun h0_ => absurd ((hoff 6 (by kernel_rfl)).symm.trans h0_) (by decide), fun h0_ => absurd ((hoff 7 (by kernel_rfl)).symm.trans h0_) (by decide), fun h0_ => absurd ((hoff 9 (by kernel_rfl)).symm.trans h0_) (by decide)⟩
         refine steps_cons ?_ ?_
         ·rintro b a w' ⟨v293, v296, v300, m5_, m6_, m7_, m9_, ha, Q_HO272, Q_HO276, Q_HO280, Q_HO284, Q_HO289, Q_BK273, Q_BK277, Q_BK281, Q_HB, Q_HC, Q_HO294, Q_HO297, Q_HO301, Q_X5_, Q_X6_, Q_X7_, Q_X9_⟩ hb_ hon hoff
          refine ⟨_, rfl, fun K hK => ?_⟩
          have e32 : a.tmps[32]? = some (v293) := by rw [ha]; exact putSel_on (e := (0, 32, v293)) 0 rfl rfl (hon 0 (by kernel_rfl)) rfl
          have e36 : a.tmps[36]? = some (v296) := by rw [ha]; exact putSel_on (e := (4, 36, v296)) 4 rfl rfl (hon 4 (by kernel_rfl)) rfl
          replace ha := Aside0.mk ha
          have HO284 := Aside0.mk Q_HO284
          have HO289 := Aside0.mk Q_HO289
          have BK273 := Aside0.mk Q_BK273
          have BK277 := Aside0.mk Q_BK277
          have BK281 := Aside0.mk Q_BK281
          have HB := Aside0.mk Q_HB
          have HC := Aside0.mk Q_HC
          have HO294 := Aside0.mk (Q_HO294 (hon 0 (by kernel_rfl)))
          have HO297 := Aside0.mk (Q_HO297 (hon 4 (by kernel_rfl)))
          obtain ⟨Ao55, co55, eo55⟩ := Kd.R_slice HO294.out
          (first | subst eo55 | (injection eo55 with f1_ f2_ f3_; have f4_ := f1_.symm; have f5_ := f3_.symm; clear f1_ f2_ f3_; subst f4_; subst f5_))
          obtain ⟨Ao56, co56, eo56⟩ := Kd.N_slice HO297.out
          (first | subst eo56 | (injection eo56 with f1_ f2_ f3_; have f4_ := f1_.symm; have f5_ := f3_.symm; clear f1_ f2_ f3_; subst f4_; subst f5_))
          refine goes_ Tryd.func19 (by kernel_rfl) rfl #[.slice Ao55 t292.length co55, .slice Ao56 y295.length co56] (by rfl) rfl rfl (by first | (simp only [List.map_toArray, List.map_cons, List.map_nil, Act.eval, Array.getD_eq_getD_getElem?, Option.getD_some, e32, e36]; done) | (simp only [List.map_toArray, List.map_cons, List.map_nil, Act.eval, Array.getD_eq_getD_getElem?, Option.getD_some, e32, e36]; rfl)) ?_
          with_reducible refine (lit_Tops.calls (hG := gK) k _ _ t292 _ _ y295 t298 t299 _ ?side1 ?side2 ?side3 ?side4 A6.out).mono ?_
          (case side1 => exact cK ((Kd.R_reads' HO294.out).2.2))
          (case side2 => exact (Kd.R_reads' HO294.out).2.1)
          (case side3 => exact cK ((Kd.N_reads' HO297.out).2.2))
          (case side4 => exact (Kd.N_reads' HO297.out).2.1)
          rintro e w57 ⟨v300, rfl, ho0, hb⟩
          refine ⟨_, rfl, ?_⟩
          have n0_ := Aside0.mk (Kd.R_below (rK HO284) hb)
          have n1_ := Aside0.mk (Kd.R_below (rK HO289) hb)
          have n2_ := Aside0.mk (Kd.R_below (rK HO294) hb)
          have n3_ := Aside0.mk (Kd.N_elder' (nK HO297) (Kd.R_base ho0) hb)
          have n4_ := Aside0.mk (Kd.R_lower ho0 (below_size bS))
          have n5_ := Aside0.mk (blk_below (g := gb273) (o := .cells #[.bool false, .slice Ao25 y270.length co25] 25 (0, 0)) (bK BK273) hb)
          have n6_ := Aside0.mk (blk_below (g := gb277) (o := .cells #[.bool true, .slice Ao30 y274.length co30] 25 (0, 0)) (bK BK277) hb)
          have n7_ := Aside0.mk (blk_below (g := gb281) (o := .cells #[.bool false, .slice Ao36 y278.length co36] 25 (0, 0)) (bK BK281) hb)
          have n8_ := Aside0.mk (below_step bS hb)
          have mHC_ := Aside0.mk (below_step (by repeat (first | (with_reducible first | exact HC.out | apply below_alloc | apply pw_below_drewN | apply below_drew1 | refine below_set ?_ GE273.out | refine below_set ?_ GE277.out | refine below_set ?_ GE281.out) | exact HC.out)) hb)
          clear HO284 HO289 HO294 HO297 BK273 BK277 BK281
          (try clear HC)
          clear HB
          have HO284 := n0_
          have HO289 := n1_
          have HO294 := n2_
          have HO297 := n3_
          have HO301 := n4_
          have BK273 := n5_
          have BK277 := n6_
          have BK281 := n7_
          have HB := n8_
          have HC := mHC_
          clear n0_ n1_ n2_ n3_ n4_ n5_ n6_ n7_ n8_
          (try clear hb)
          (try clear hb2)
          (try clear hk)
          (try clear hi)
          (try clear ho0)
          refine hK.out _ _ ⟨.slice Ao55 t292.length co55, .slice Ao56 y295.length co56, v300, (.tuple #[v300, .int .i64 t299]), m6_, m7_, m9_, (by rw [ha.out]; exact putSel_upk 5 hb_ rfl rfl rfl), fun h0_ => absurd ((hon 4 (by kernel_rfl)).symm.trans h0_) (by decide), fun h0_ => absurd ((hon 4 (by kernel_rfl)).symm.trans h0_) (by decide), fun h0_ => absurd ((hon 4 (by kernel_rfl)).symm.trans h0_) (by decide), (rK HO284), (rK HO289), (bK BK273), (bK BK277), (bK BK281), bS, (by repeat (first | (with_reducible first | exact HC.out | apply below_alloc | apply pw_below_drewN | apply below_drew1 | refine below_set ?_ GE273.out | refine below_set ?_ GE277.out | refine below_set ?_ GE281.out) | exact HC.out)), fun _ => (rK HO294), fun _ => (by (with_reducible repeat (first | apply Kd.N_alloc | apply Kd.N_drewN | apply Kd.N_drew)); exact Kd.N_mono HO297.out (fun _ hk => hk.1)), fun _ => (rK HO301), fun _ => rfl, fun h0_ => absurd ((hoff 6 (by kernel_rfl)).symm.trans h0_) (by decide), fun h0_ => absurd ((hoff 7 (by kernel_rfl)).symm.trans h0_) (by decide), fun h0_ => absurd ((hoff 9 (by kernel_rfl)).symm.trans h0_) (by decide)⟩
         refine steps_cons ?_ ?_
         ·rintro b a w' ⟨v293, v296, v300, m5_, m6_, m7_, m9_, ha, Q_HO272, Q_HO276, Q_HO280, Q_HO284, Q_HO289, Q_BK273, Q_BK277, Q_BK281, Q_HB, Q_HC, Q_HO294, Q_HO297, Q_HO301, Q_X5_, Q_X6_, Q_X7_, Q_X9_⟩ hb_ hon hoff
          refine ⟨_, rfl, fun K hK => ?_⟩
          have e37 : a.tmps[37]? = some (m5_) := by rw [ha]; exact putSel_on (e := (5, 37, m5_)) 5 rfl rfl (hon 5 (by kernel_rfl)) rfl
          rw [Q_X5_ (hon 5 (by kernel_rfl))] at e37
          replace ha := Aside0.mk ha
          have HO284 := Aside0.mk Q_HO284
          have HO289 := Aside0.mk Q_HO289
          have BK273 := Aside0.mk Q_BK273
          have BK277 := Aside0.mk Q_BK277
          have BK281 := Aside0.mk Q_BK281
          have HB := Aside0.mk Q_HB
          have HC := Aside0.mk Q_HC
          have HO294 := Aside0.mk (Q_HO294 (hon 0 (by kernel_rfl)))
          have HO297 := Aside0.mk (Q_HO297 (hon 4 (by kernel_rfl)))
          have HO301 := Aside0.mk (Q_HO301 (hon 5 (by kernel_rfl)))
          refine value_ (w1 := w') (v := .tuple #[v300, .int .i64 t299]) (by rfl) rfl ?_ ?_
          ·go_simp
           (try simp only [i64_w])
           try rfl
          refine hK.out _ _ ⟨v293, v296, v300, m5_, (.tuple #[v300, .int .i64 t299]), m7_, m9_, (by rw [ha.out]; exact putSel_upk 6 hb_ rfl rfl rfl), fun h0_ => absurd ((hon 4 (by kernel_rfl)).symm.trans h0_) (by decide), fun h0_ => absurd ((hon 4 (by kernel_rfl)).symm.trans h0_) (by decide), fun h0_ => absurd ((hon 4 (by kernel_rfl)).symm.trans h0_) (by decide), Q_HO284, Q_HO289, Q_BK273, Q_BK277, Q_BK281, Q_HB, Q_HC, Q_HO294, Q_HO297, Q_HO301, Q_X5_, fun _ => rfl, fun h0_ => absurd ((hoff 7 (by kernel_rfl)).symm.trans h0_) (by decide), fun h0_ => absurd ((hoff 9 (by kernel_rfl)).symm.trans h0_) (by decide)⟩
         refine steps_cons ?_ ?_
         ·rintro b a w' ⟨v293, v296, v300, m5_, m6_, m7_, m9_, ha, Q_HO272, Q_HO276, Q_HO280, Q_HO284, Q_HO289, Q_BK273, Q_BK277, Q_BK281, Q_HB, Q_HC, Q_HO294, Q_HO297, Q_HO301, Q_X5_, Q_X6_, Q_X7_, Q_X9_⟩ hb_ hon hoff
          refine ⟨_, rfl, fun K hK => ?_⟩
          have e31 : a.tmps[31]? = some (m6_) := by rw [ha]; exact putSel_on (e := (6, 31, m6_)) 6 rfl rfl (hon 6 (by kernel_rfl)) rfl
          rw [Q_X6_ (hon 6 (by kernel_rfl))] at e31
          replace ha := Aside0.mk ha
          have HO284 := Aside0.mk Q_HO284
          have HO289 := Aside0.mk Q_HO289
          have BK273 := Aside0.mk Q_BK273
          have BK277 := Aside0.mk Q_BK277
          have BK281 := Aside0.mk Q_BK281
          have HB := Aside0.mk Q_HB
          have HC := Aside0.mk Q_HC
          have HO294 := Aside0.mk (Q_HO294 (hon 0 (by kernel_rfl)))
          have HO297 := Aside0.mk (Q_HO297 (hon 4 (by kernel_rfl)))
          have HO301 := Aside0.mk (Q_HO301 (hon 5 (by kernel_rfl)))
          obtain ⟨Ao7_0, co7_0, eo_⟩ := Kd.R_slice HO301.out
          subst eo_
          refine value_ (w1 := w') (v := .slice Ao7_0 t298.length co7_0) (by rfl) rfl ?_ ?_
          ·go_simp
           (try simp only [i64_w])
           try rfl
          refine hK.out _ _ ⟨v293, v296, .slice Ao7_0 t298.length co7_0, m5_, m6_, (.slice Ao7_0 t298.length co7_0), m9_, (by rw [ha.out]; exact putSel_upk 7 hb_ rfl rfl rfl), fun h0_ => absurd ((hon 4 (by kernel_rfl)).symm.trans h0_) (by decide), fun h0_ => absurd ((hon 4 (by kernel_rfl)).symm.trans h0_) (by decide), fun h0_ => absurd ((hon 4 (by kernel_rfl)).symm.trans h0_) (by decide), Q_HO284, Q_HO289, Q_BK273, Q_BK277, Q_BK281, Q_HB, Q_HC, Q_HO294, Q_HO297, Q_HO301, Q_X5_, Q_X6_, fun _ => rfl, fun h0_ => absurd ((hoff 9 (by kernel_rfl)).symm.trans h0_) (by decide)⟩
         refine steps_cons ?_ ?_
         ·rintro b a w' ⟨v293, v296, v300, m5_, m6_, m7_, m9_, ha, Q_HO272, Q_HO276, Q_HO280, Q_HO284, Q_HO289, Q_BK273, Q_BK277, Q_BK281, Q_HB, Q_HC, Q_HO294, Q_HO297, Q_HO301, Q_X5_, Q_X6_, Q_X7_, Q_X9_⟩ hb_ hon hoff
          refine ⟨_, rfl, fun K hK => ?_⟩
          have e31 : a.tmps[31]? = some (m6_) := by rw [ha]; exact putSel_on (e := (6, 31, m6_)) 6 rfl rfl (hon 6 (by kernel_rfl)) rfl
          rw [Q_X6_ (hon 6 (by kernel_rfl))] at e31
          replace ha := Aside0.mk ha
          have HO284 := Aside0.mk Q_HO284
          have HO289 := Aside0.mk Q_HO289
          have BK273 := Aside0.mk Q_BK273
          have BK277 := Aside0.mk Q_BK277
          have BK281 := Aside0.mk Q_BK281
          have HB := Aside0.mk Q_HB
          have HC := Aside0.mk Q_HC
          have HO294 := Aside0.mk (Q_HO294 (hon 0 (by kernel_rfl)))
          have HO297 := Aside0.mk (Q_HO297 (hon 4 (by kernel_rfl)))
          have HO301 := Aside0.mk (Q_HO301 (hon 5 (by kernel_rfl)))
          obtain ⟨Ao8_0, co8_0, eo_⟩ := Kd.R_slice HO301.out
          subst eo_
          refine value_ (w1 := w') (v := .int .i64 t299) (by rfl) rfl ?_ ?_
          ·go_simp
           (try simp only [i64_w])
           try rfl
          refine hK.out _ _ ⟨v293, v296, .slice Ao8_0 t298.length co8_0, m5_, m6_, m7_, m9_, (by rw [ha.out]; exact putSel_upk 8 hb_ rfl rfl rfl), fun h0_ => absurd ((hon 4 (by kernel_rfl)).symm.trans h0_) (by decide), fun h0_ => absurd ((hon 4 (by kernel_rfl)).symm.trans h0_) (by decide), fun h0_ => absurd ((hon 4 (by kernel_rfl)).symm.trans h0_) (by decide), Q_HO284, Q_HO289, Q_BK273, Q_BK277, Q_BK281, Q_HB, Q_HC, Q_HO294, Q_HO297, Q_HO301, Q_X5_, Q_X6_, Q_X7_, Q_X9_⟩
         refine steps_cons ?_ ?_
         ·rintro b a w' ⟨v293, v296, v300, m5_, m6_, m7_, m9_, ha, Q_HO272, Q_HO276, Q_HO280, Q_HO284, Q_HO289, Q_BK273, Q_BK277, Q_BK281, Q_HB, Q_HC, Q_HO294, Q_HO297, Q_HO301, Q_X5_, Q_X6_, Q_X7_, Q_X9_⟩ hb_ hon hoff
          refine ⟨_, rfl, fun K hK => ?_⟩
          have e38 : a.tmps[38]? = some (m7_) := by rw [ha]; exact putSel_on (e := (7, 38, m7_)) 7 rfl rfl (hon 7 (by kernel_rfl)) rfl
          rw [Q_X7_ (hon 7 (by kernel_rfl))] at e38
          replace ha := Aside0.mk ha
          have HO284 := Aside0.mk Q_HO284
          have HO289 := Aside0.mk Q_HO289
          have BK273 := Aside0.mk Q_BK273
          have BK277 := Aside0.mk Q_BK277
          have BK281 := Aside0.mk Q_BK281
          have HB := Aside0.mk Q_HB
          have HC := Aside0.mk Q_HC
          have HO294 := Aside0.mk (Q_HO294 (hon 0 (by kernel_rfl)))
          have HO297 := Aside0.mk (Q_HO297 (hon 4 (by kernel_rfl)))
          have HO301 := Aside0.mk (Q_HO301 (hon 5 (by kernel_rfl)))
          refine value_ (w1 := w') (v := v300) (by rfl) rfl ?_ ?_
          ·go_simp
           (try simp only [i64_w])
           try rfl
          refine hK.out _ _ ⟨v293, v296, v300, m5_, m6_, m7_, (v300), (by rw [ha.out]; exact putSel_upk 9 hb_ rfl rfl rfl), fun h0_ => absurd ((hon 4 (by kernel_rfl)).symm.trans h0_) (by decide), fun h0_ => absurd ((hon 4 (by kernel_rfl)).symm.trans h0_) (by decide), fun h0_ => absurd ((hon 4 (by kernel_rfl)).symm.trans h0_) (by decide), Q_HO284, Q_HO289, Q_BK273, Q_BK277, Q_BK281, Q_HB, Q_HC, Q_HO294, Q_HO297, Q_HO301, Q_X5_, Q_X6_, Q_X7_, fun _ => rfl⟩
         refine steps_cons ?_ ?_
         ·rintro b a w' ⟨v293, v296, v300, m5_, m6_, m7_, m9_, ha, Q_HO272, Q_HO276, Q_HO280, Q_HO284, Q_HO289, Q_BK273, Q_BK277, Q_BK281, Q_HB, Q_HC, Q_HO294, Q_HO297, Q_HO301, Q_X5_, Q_X6_, Q_X7_, Q_X9_⟩ hb_ hon hoff
          refine ⟨_, rfl, fun K hK => ?_⟩
          have e39 : a.tmps[39]? = some (.int .i64 t299) := by rw [ha]; exact putSel_on (e := (8, 39, .int .i64 t299)) 8 rfl rfl (hon 8 (by kernel_rfl)) rfl
          replace ha := Aside0.mk ha
          have HO284 := Aside0.mk Q_HO284
          have HO289 := Aside0.mk Q_HO289
          have BK273 := Aside0.mk Q_BK273
          have BK277 := Aside0.mk Q_BK277
          have BK281 := Aside0.mk Q_BK281
          have HB := Aside0.mk Q_HB
          have HC := Aside0.mk Q_HC
          have HO294 := Aside0.mk (Q_HO294 (hon 0 (by kernel_rfl)))
          have HO297 := Aside0.mk (Q_HO297 (hon 4 (by kernel_rfl)))
          have HO301 := Aside0.mk (Q_HO301 (hon 5 (by kernel_rfl)))
          refine value_ (w1 := w') (v := .int .i64 t299) (by rfl) rfl ?_ ?_
          ·go_simp
           (try simp only [i64_w])
           try rfl
          refine hK.out _ _ ⟨v293, v296, v300, m5_, m6_, m7_, m9_, (by rw [ha.out]; exact putSel_upk 10 hb_ rfl rfl rfl), fun h0_ => absurd ((hon 4 (by kernel_rfl)).symm.trans h0_) (by decide), fun h0_ => absurd ((hon 4 (by kernel_rfl)).symm.trans h0_) (by decide), fun h0_ => absurd ((hon 4 (by kernel_rfl)).symm.trans h0_) (by decide), Q_HO284, Q_HO289, Q_BK273, Q_BK277, Q_BK281, Q_HB, Q_HC, Q_HO294, Q_HO297, Q_HO301, Q_X5_, Q_X6_, Q_X7_, Q_X9_⟩
         exact steps_nil
        rintro b a w57 hall ⟨v293, v296, v300, m5_, m6_, m7_, m9_, ha, Q_HO272, Q_HO276, Q_HO280, Q_HO284, Q_HO289, Q_BK273, Q_BK277, Q_BK281, Q_HB, Q_HC, Q_HO294, Q_HO297, Q_HO301, Q_X5_, Q_X6_, Q_X7_, Q_X9_⟩
        (try clear HC)
        clear BK273 BK277 BK281 HB HO272 HO276 HO280 HO284 HO289
        have hb0_ := hall 0 (by kernel_rfl)
        have hb1_ := hall 1 (by kernel_rfl)
        have hb2_ := hall 2 (by kernel_rfl)
        have hb3_ := hall 3 (by kernel_rfl)
        have hb4_ := hall 4 (by kernel_rfl)
        have hb5_ := hall 5 (by kernel_rfl)
        have hb6_ := hall 6 (by kernel_rfl)
        have hb7_ := hall 7 (by kernel_rfl)
        have hb8_ := hall 8 (by kernel_rfl)
        have hb9_ := hall 9 (by kernel_rfl)
        have hb10_ := hall 10 (by kernel_rfl)
        subst ha
        obtain rfl := Q_X5_ hb5_
        obtain rfl := Q_X6_ hb6_
        obtain rfl := Q_X7_ hb7_
        obtain rfl := Q_X9_ hb9_
        simp only [putSel, hb0_, hb1_, hb2_, hb3_, hb4_, hb5_, hb6_, hb7_, hb8_, hb9_, hb10_, if_true, Act.put, List.setIfInBounds_toArray, List.set_cons_zero, List.set_cons_succ]
        clear Q_HO272 Q_HO276 Q_HO280
        have HO284 := Aside0.mk Q_HO284
        clear Q_HO284
        have HO289 := Aside0.mk Q_HO289
        clear Q_HO289
        have BK273 := Aside0.mk Q_BK273
        clear Q_BK273
        have BK277 := Aside0.mk Q_BK277
        clear Q_BK277
        have BK281 := Aside0.mk Q_BK281
        clear Q_BK281
        have HB := Aside0.mk Q_HB
        have HC := Aside0.mk Q_HC
        (try clear Q_HC)
        clear Q_HB
        have HO294 := Aside0.mk (Q_HO294 hb0_)
        clear Q_HO294
        have HO297 := Aside0.mk (Q_HO297 hb4_)
        clear Q_HO297
        have HO301 := Aside0.mk (Q_HO301 hb5_)
        clear Q_HO301 hall hb0_ hb1_ hb2_ hb3_ hb4_ hb5_ hb6_ hb7_ hb8_ hb9_ hb10_
        try go_wp2_with (first | ((with_reducible refine gate_callee (f := 30) rfl ?_); refine goesL_ (some 41) rfl rfl Tryd.func30 (by kernel_rfl) rfl #[] rfl mA ?_; (with_reducible refine (quaerelaw7_words.calls  t302 _ A7.out).mono ?_); rintro e w58 ⟨v303, rfl, ho0, hb⟩; refine ⟨_, rfl, ?_⟩; have n0_ := Aside0.mk (Kd.R_elder' (rK HO284) (Kd.R_base ho0) hb); have n1_ := Aside0.mk (Kd.R_elder' (rK HO289) (Kd.R_base ho0) hb); have n2_ := Aside0.mk (Kd.R_elder' (rK HO294) (Kd.R_base ho0) hb); have n3_ := Aside0.mk (Kd.N_elder' (nK HO297) (Kd.R_base ho0) hb); have n4_ := Aside0.mk (Kd.R_below (rK HO301) hb); have n5_ := Aside0.mk (Kd.R_lower (Kd.R_new' (Kd.R_new' (Kd.R_new' ho0 (Kd.R_lt (rK HO284))) (Kd.R_lt (rK HO289))) (Kd.R_lt (rK HO294))) (below_size bS)); have n6_ := Aside0.mk (blk_below (g := gb273) (o := .cells #[.bool false, .slice Ao25 y270.length co25] 25 (0, 0)) (bK BK273) hb); have n7_ := Aside0.mk (blk_below (g := gb277) (o := .cells #[.bool true, .slice Ao30 y274.length co30] 25 (0, 0)) (bK BK277) hb); have n8_ := Aside0.mk (blk_below (g := gb281) (o := .cells #[.bool false, .slice Ao36 y278.length co36] 25 (0, 0)) (bK BK281) hb); have n9_ := Aside0.mk (below_step bS hb); have mHC_ := Aside0.mk (below_step (by repeat (first | (with_reducible first | exact HC.out | apply below_alloc | apply pw_below_drewN | apply below_drew1 | refine below_set ?_ GE273.out | refine below_set ?_ GE277.out | refine below_set ?_ GE281.out) | exact HC.out)) hb); clear HO284; clear HO289; clear HO294; clear HO297; clear HO301; clear BK273; clear BK277; clear BK281; (try clear HC); clear HB; have HO284 := n0_; have HO289 := n1_; have HO294 := n2_; have HO297 := n3_; have HO301 := n4_; have HO304 := n5_; have BK273 := n6_; have BK277 := n7_; have BK281 := n8_; have HB := n9_; have HC := mHC_; clear n0_ n1_ n2_ n3_ n4_ n5_ n6_ n7_ n8_ n9_; (try clear hb); (try clear hb2); (try clear hk); (try clear hi); (try clear ho0)) | ((with_reducible refine gate_dst (N := 42) rfl ?_); (try (refine gate_guard (by rfl) ?_; dsimp only)); refine Kd.R_lit (Kd.int .i64) _ 3 ?hg (N := 42) ?hd (xs := ([3, 1] : List Int)) (inner := [.int .i64 3, .int .i64 1]) (ok := fun _ => True) (okp := fun _ => True) ?hr ?hp (fun _ hk => hk) trivial (Below.refl _ _) (Nat.le_refl _) (by simp) ?_; (case hd => rfl); (case hg => rfl); (case hr => first | (go_simp; done) | (go_simp; rfl)); (case hp => exact (Reps.one (show Kd.M (Kd.int .i64) _ _ _ 3 [.int .i64 3] from rfl) (Reps.one (show Kd.M (Kd.int .i64) _ _ _ 1 [.int .i64 1] from rfl) (Reps.none _ _)))); intro v306 w59 ho60 hb hg_ hnew_; clear hg_ hnew_; (first | rw [← Ny305.out] at ho60 | (simp only [Int.reduceToNat] at ho60; rw [← Ny305.out] at ho60)); have n0_ := Aside0.mk (Kd.R_below (rK HO284) hb); have n1_ := Aside0.mk (Kd.R_below (rK HO289) hb); have n2_ := Aside0.mk (Kd.R_below (rK HO294) hb); have n3_ := Aside0.mk (Kd.N_elder' (nK HO297) (Kd.R_base ho60) hb); have n4_ := Aside0.mk (Kd.R_elder' (rK HO301) (Kd.R_base ho60) hb); have n5_ := Aside0.mk (Kd.R_below (rK HO304) hb); have n6_ := Aside0.mk (Kd.R_lower (Kd.R_new' ho60 (Kd.R_lt (rK HO301))) (below_size bS)); have n7_ := Aside0.mk (blk_below (g := gb273) (o := .cells #[.bool false, .slice Ao25 y270.length co25] 25 (0, 0)) (bK BK273) hb); have n8_ := Aside0.mk (blk_below (g := gb277) (o := .cells #[.bool true, .slice Ao30 y274.length co30] 25 (0, 0)) (bK BK277) hb); have n9_ := Aside0.mk (blk_below (g := gb281) (o := .cells #[.bool false, .slice Ao36 y278.length co36] 25 (0, 0)) (bK BK281) hb); have n10_ := Aside0.mk (below_step bS hb); have mHC_ := Aside0.mk (below_step (by repeat (first | (with_reducible first | exact HC.out | apply below_alloc | apply pw_below_drewN | apply below_drew1 | refine below_set ?_ GE273.out | refine below_set ?_ GE277.out | refine below_set ?_ GE281.out) | exact HC.out)) hb); clear HO284; clear HO289; clear HO294; clear HO297; clear HO301; clear HO304; clear BK273; clear BK277; clear BK281; (try clear HC); clear HB; have HO284 := n0_; have HO289 := n1_; have HO294 := n2_; have HO297 := n3_; have HO301 := n4_; have HO304 := n5_; have HO307 := n6_; have BK273 := n7_; have BK277 := n8_; have BK281 := n9_; have HB := n10_; have HC := mHC_; clear n0_ n1_ n2_ n3_ n4_ n5_ n6_ n7_ n8_ n9_ n10_; clear hb ho60; obtain ⟨Ao61, co61, eo61⟩ := Kd.R_slice HO307.out; subst eo61; obtain ⟨Ao62, co62, eo62⟩ := Kd.R_slice HO304.out; subst eo62) | ((with_reducible refine gate_callee (f := 10) rfl ?_); refine goesL_ (some 44) rfl rfl Tryd.func10 (by kernel_rfl) rfl #[.slice Ao62 t302.length co62, .agg #[.bool false, .slice Ao61 y305.length co61]] rfl mA ?_; (with_reducible refine (lit_Weight.calls (hG := gK) k _ _ t302 false _ _ y305 t308 t309 _ ?side1 ?side2 ?side3 ?side4 A8.out).mono ?_); (case side1 => exact cK ((Kd.R_reads' HO304.out).2.2)); (case side2 => exact (Kd.R_reads' HO304.out).2.1); (case side3 => exact cK ((Kd.R_reads' HO307.out).2.2)); (case side4 => exact (Kd.R_reads' HO307.out).2.1); rintro e w63 ⟨rfl, hb⟩; refine ⟨_, rfl, ?_⟩; have n0_ := Aside0.mk (Kd.R_below (rK HO284) hb); have n1_ := Aside0.mk (Kd.R_below (rK HO289) hb); have n2_ := Aside0.mk (Kd.R_below (rK HO294) hb); have n3_ := Aside0.mk (Kd.N_below (nK HO297) hb); have n4_ := Aside0.mk (Kd.R_below (rK HO301) hb); have n5_ := Aside0.mk (Kd.R_below (rK HO304) hb); have n6_ := Aside0.mk (Kd.R_below (rK HO307) hb); have n7_ := Aside0.mk (blk_below (g := gb273) (o := .cells #[.bool false, .slice Ao25 y270.length co25] 25 (0, 0)) (bK BK273) hb); have n8_ := Aside0.mk (blk_below (g := gb277) (o := .cells #[.bool true, .slice Ao30 y274.length co30] 25 (0, 0)) (bK BK277) hb); have n9_ := Aside0.mk (blk_below (g := gb281) (o := .cells #[.bool false, .slice Ao36 y278.length co36] 25 (0, 0)) (bK BK281) hb); have n10_ := Aside0.mk (below_step bS hb); have mHC_ := Aside0.mk (below_step (by repeat (first | (with_reducible first | exact HC.out | apply below_alloc | apply pw_below_drewN | apply below_drew1 | refine below_set ?_ GE273.out | refine below_set ?_ GE277.out | refine below_set ?_ GE281.out) | exact HC.out)) hb); clear HO284; clear HO289; clear HO294; clear HO297; clear HO301; clear HO304; clear HO307; clear BK273; clear BK277; clear BK281; (try clear HC); clear HB; have HO284 := n0_; have HO289 := n1_; have HO294 := n2_; have HO297 := n3_; have HO301 := n4_; have HO304 := n5_; have HO307 := n6_; have BK273 := n7_; have BK277 := n8_; have BK281 := n9_; have HB := n10_; have HC := mHC_; clear n0_ n1_ n2_ n3_ n4_ n5_ n6_ n7_ n8_ n9_ n10_; (try clear hb); (try clear hb2); (try clear hk); (try clear hi)))
        have n0_ := Aside0.mk (Kd.R_drew HO284.out)
        have n1_ := Aside0.mk (Kd.R_drew HO289.out)
        have n2_ := Aside0.mk (Kd.R_drew HO294.out)
        have n3_ := Aside0.mk (Kd.N_drew HO297.out)
        have n4_ := Aside0.mk (Kd.R_drew HO301.out)
        have n5_ := Aside0.mk (Kd.R_drew HO304.out)
        have n6_ := Aside0.mk (Kd.R_drew HO307.out)
        have n7_ := Aside0.mk (blk_drew BK273.out)
        have n8_ := Aside0.mk (blk_drew BK277.out)
        have n9_ := Aside0.mk (blk_drew BK281.out)
        have n10_ := Aside0.mk (below_drew1 HB.out)
        have mHC_ := Aside0.mk (below_drew1 HC.out)
        clear HO284 HO289 HO294 HO297 HO301 HO304 HO307 BK273 BK277 BK281
        (try clear HC)
        clear HB
        have HO284 := n0_
        have HO289 := n1_
        have HO294 := n2_
        have HO297 := n3_
        have HO301 := n4_
        have HO304 := n5_
        have HO307 := n6_
        have BK273 := n7_
        have BK277 := n8_
        have BK281 := n9_
        have HB := n10_
        have HC := mHC_
        clear n0_ n1_ n2_ n3_ n4_ n5_ n6_ n7_ n8_ n9_ n10_
        refine start_ (n := 37) (S := fun w' => w'.cell? ⟨gb273, 0, none⟩ = some (.bool false) ∧ w'.cell? ⟨gb273, 1, none⟩ = some (.slice Ao25 y270.length co25)) (ds := []) #[false, false, false, false, false, false, false, false, false, false, false, false, false, false, false, false, false, false, false, false, false, false, false, false, false, false, false, false, false, false, false, false, false, false, false, false, false] (by kernel_rfl) rfl rfl ⟨(blk_cell BK273.out 0).trans rfl, (blk_cell BK273.out 1).trans rfl⟩ (fun hHeld => ?_); refine with_tabW quaerelaw7_awake.tab8 quaerelaw7_awake.bits8 (fun HT_ HW_ => ?_)
        generalize w63.drew = w64 at HO284 HO289 HO294 HO297 HO301 HO304 HO307 BK273 BK277 BK281 HB HC hHeld ⊢
        refine pure_ (i := 0) (N := some 47) (v := ?_) (a' := ?_) #[true, false, false, false, false, false, false, false, false, false, false, false, false, false, false, false, false, false, false, false, false, false, false, false, false, false, false, false, false, false, false, false, false, false, false, false, false] rfl rfl (any_of HT_.out (by kernel_rfl)) (fun _ _ _ h => h) (Or.inl ⟨by rfl, ?_⟩) ?_ ?_
        rotate_left
        ·intro w'
         go_simp
         with_reducible rfl
        rotate_left
        ·simp only [Act.put, List.setIfInBounds_toArray, List.set_cons_zero, List.set_cons_succ, i64_w, i32_w]
         rfl
        refine pure_ (i := 1) (N := some 48) (v := ?_) (a' := ?_) #[true, true, false, false, false, false, false, false, false, false, false, false, false, false, false, false, false, false, false, false, false, false, false, false, false, false, false, false, false, false, false, false, false, false, false, false, false] rfl rfl (any_of HT_.out (by kernel_rfl)) (fun _ _ _ h => h) (Or.inl ⟨by rfl, ?_⟩) ?_ ?_
        rotate_left
        ·intro w'
         go_simp
         with_reducible rfl
        rotate_left
        ·simp only [Act.put, List.setIfInBounds_toArray, List.set_cons_zero, List.set_cons_succ, i64_w, i32_w]
         rfl
        refine pure_ (i := 2) (N := some 49) (v := ?_) (a' := ?_) #[true, true, true, false, false, false, false, false, false, false, false, false, false, false, false, false, false, false, false, false, false, false, false, false, false, false, false, false, false, false, false, false, false, false, false, false, false] rfl rfl (any_of HT_.out (by kernel_rfl)) (fun _ _ _ h => h) (Or.inl ⟨by rfl, ?_⟩) ?_ ?_
        rotate_left
        ·intro w'
         go_simp
         with_reducible rfl
        rotate_left
        ·simp only [Act.put, List.setIfInBounds_toArray, List.set_cons_zero, List.set_cons_succ, i64_w, i32_w]
         rfl
        refine pure_ (i := 3) (N := some 50) (v := ?_) (a' := ?_) #[true, true, true, true, false, false, false, false, false, false, false, false, false, false, false, false, false, false, false, false, false, false, false, false, false, false, false, false, false, false, false, false, false, false, false, false, false] rfl rfl (any_of HT_.out (by kernel_rfl)) (fun _ _ _ h => h) (Or.inl ⟨by rfl, ?_⟩) ?_ ?_
        rotate_left
        ·intro w'
         go_simp
         with_reducible rfl
        rotate_left
        ·simp only [Act.put, List.setIfInBounds_toArray, List.set_cons_zero, List.set_cons_succ, i64_w, i32_w]
         rfl
        refine one_ (i := 4) (N := some 51) #[true, true, true, true, true, false, false, false, false, false, false, false, false, false, false, false, false, false, false, false, false, false, false, false, false, false, false, false, false, false, false, false, false, false, false, false, false] rfl rfl (one_of HT_.out (by kernel_rfl)) (by decide) (fun K hK => ?_)
        refine goes_ Tryd.func16 (by kernel_rfl) rfl #[.int .i64 t286] (by rfl) rfl rfl mA ?_
        with_reducible refine (quaerelaw0_Num.calls t286 t310 _ A10.out).mono ?_
        rintro e w' ⟨rfl, ⟨nd, rfl⟩⟩
        refine ⟨_, rfl, ?_⟩
        refine hK.out _ _ ⟨(blk_cell BK273.out 0).trans rfl, (blk_cell BK273.out 1).trans rfl⟩ (fun hHeld => ?_)
        clear hK K
        refine norm_ (a' := ?_) ?_ ?_
        rotate_left
        ·show Act.put _ (some 51) _ = _
         simp only [Act.put, List.setIfInBounds_toArray, List.set_cons_zero, List.set_cons_succ, i64_w, i32_w]
         rfl
        refine pure_ (i := 5) (N := some 52) (v := ?_) (a' := ?_) #[true, true, true, true, true, true, false, false, false, false, false, false, false, false, false, false, false, false, false, false, false, false, false, false, false, false, false, false, false, false, false, false, false, false, false, false, false] rfl rfl (any_of HT_.out (by kernel_rfl)) (fun _ _ _ h => h) (Or.inl ⟨by rfl, ?_⟩) ?_ ?_
        rotate_left
        ·intro w'
         go_simp
         with_reducible rfl
        rotate_left
        ·simp only [Act.put, List.setIfInBounds_toArray, List.set_cons_zero, List.set_cons_succ, i64_w, i32_w]
         rfl
        refine pure_ (i := 6) (N := some 53) (v := ?_) (a' := ?_) #[true, true, true, true, true, true, true, false, false, false, false, false, false, false, false, false, false, false, false, false, false, false, false, false, false, false, false, false, false, false, false, false, false, false, false, false, false] rfl rfl (any_of HT_.out (by kernel_rfl)) (fun _ _ _ h => h) (Or.inl ⟨by rfl, ?_⟩) ?_ ?_
        rotate_left
        ·intro w'
         go_simp
         with_reducible rfl
        rotate_left
        ·simp only [Act.put, List.setIfInBounds_toArray, List.set_cons_zero, List.set_cons_succ, i64_w, i32_w]
         rfl
        refine pure_ (i := 7) (N := some 54) (v := ?_) (a' := ?_) #[true, true, true, true, true, true, true, true, false, false, false, false, false, false, false, false, false, false, false, false, false, false, false, false, false, false, false, false, false, false, false, false, false, false, false, false, false] rfl rfl (any_of HT_.out (by kernel_rfl)) (fun _ _ _ h => h) (Or.inl ⟨by rfl, ?_⟩) ?_ ?_
        rotate_left
        ·intro w'
         go_simp
         with_reducible rfl
        rotate_left
        ·simp only [Act.put, List.setIfInBounds_toArray, List.set_cons_zero, List.set_cons_succ, i64_w, i32_w]
         rfl
        refine pure_ (i := 8) (N := some 55) (v := ?_) (a' := ?_) #[true, true, true, true, true, true, true, true, true, false, false, false, false, false, false, false, false, false, false, false, false, false, false, false, false, false, false, false, false, false, false, false, false, false, false, false, false] rfl rfl (any_of HT_.out (by kernel_rfl)) (fun _ _ _ h => h) (Or.inl ⟨by rfl, ?_⟩) ?_ ?_
        rotate_left
        ·intro w'
         go_simp
         with_reducible rfl
        rotate_left
        ·simp only [Act.put, List.setIfInBounds_toArray, List.set_cons_zero, List.set_cons_succ, i64_w, i32_w]
         rfl
        refine pure_ (i := 9) (N := some 56) (v := ?_) (a' := ?_) #[true, true, true, true, true, true, true, true, true, true, false, false, false, false, false, false, false, false, false, false, false, false, false, false, false, false, false, false, false, false, false, false, false, false, false, false, false] rfl rfl (any_of HT_.out (by kernel_rfl)) (fun _ _ _ h => h) (Or.inl ⟨by rfl, ?_⟩) ?_ ?_
        rotate_left
        ·intro w'
         go_simp
         with_reducible rfl
        rotate_left
        ·simp only [Act.put, List.setIfInBounds_toArray, List.set_cons_zero, List.set_cons_succ, i64_w, i32_w]
         rfl
        refine pure_ (i := 10) (N := some 57) (v := ?_) (a' := ?_) #[true, true, true, true, true, true, true, true, true, true, true, false, false, false, false, false, false, false, false, false, false, false, false, false, false, false, false, false, false, false, false, false, false, false, false, false, false] rfl rfl (any_of HT_.out (by kernel_rfl)) (fun _ _ _ h => h) (Or.inl ⟨by rfl, ?_⟩) ?_ ?_
        rotate_left
        ·intro w'
         go_simp
         with_reducible rfl
        rotate_left
        ·simp only [Act.put, List.setIfInBounds_toArray, List.set_cons_zero, List.set_cons_succ, i64_w, i32_w]
         rfl
        refine pure_ (i := 11) (N := some 58) (v := ?_) (a' := ?_) #[true, true, true, true, true, true, true, true, true, true, true, true, false, false, false, false, false, false, false, false, false, false, false, false, false, false, false, false, false, false, false, false, false, false, false, false, false] rfl rfl (any_of HT_.out (by kernel_rfl)) (fun _ _ _ h => h) (Or.inl ⟨by rfl, ?_⟩) ?_ ?_
        rotate_left
        ·intro w'
         go_simp
         with_reducible rfl
        rotate_left
        ·simp only [Act.put, List.setIfInBounds_toArray, List.set_cons_zero, List.set_cons_succ, i64_w, i32_w]
         rfl
        refine pure_ (i := 12) (N := some 59) (v := ?_) (a' := ?_) #[true, true, true, true, true, true, true, true, true, true, true, true, true, false, false, false, false, false, false, false, false, false, false, false, false, false, false, false, false, false, false, false, false, false, false, false, false] rfl rfl (any_of HT_.out (by kernel_rfl)) (fun _ _ _ h => h) (Or.inl ⟨by rfl, ?_⟩) ?_ ?_
        rotate_left
        ·intro w'
         go_simp
         with_reducible rfl
        rotate_left
        ·simp only [Act.put, List.setIfInBounds_toArray, List.set_cons_zero, List.set_cons_succ, i64_w, i32_w]
         rfl
        refine one_ (i := 13) (N := some 60) #[true, true, true, true, true, true, true, true, true, true, true, true, true, true, false, false, false, false, false, false, false, false, false, false, false, false, false, false, false, false, false, false, false, false, false, false, false] rfl rfl (one_of HT_.out (by kernel_rfl)) (by decide) (fun K hK => ?_)
        refine goes_ Tryd.func16 (by kernel_rfl) rfl #[.int .i64 t291] (by rfl) rfl rfl mA ?_
        with_reducible refine (quaerelaw0_Num.calls t291 t311 _ A13.out).mono ?_
        rintro e w' ⟨rfl, ⟨nd, rfl⟩⟩
        refine ⟨_, rfl, ?_⟩
        refine hK.out _ _ ⟨(blk_cell BK273.out 0).trans rfl, (blk_cell BK273.out 1).trans rfl⟩ (fun hHeld => ?_)
        clear hK K
        refine norm_ (a' := ?_) ?_ ?_
        rotate_left
        ·show Act.put _ (some 60) _ = _
         simp only [Act.put, List.setIfInBounds_toArray, List.set_cons_zero, List.set_cons_succ, i64_w, i32_w]
         rfl
        refine pure_ (i := 14) (N := some 61) (v := ?_) (a' := ?_) #[true, true, true, true, true, true, true, true, true, true, true, true, true, true, true, false, false, false, false, false, false, false, false, false, false, false, false, false, false, false, false, false, false, false, false, false, false] rfl rfl (any_of HT_.out (by kernel_rfl)) (fun _ _ _ h => h) (Or.inl ⟨by rfl, ?_⟩) ?_ ?_
        rotate_left
        ·intro w'
         go_simp
         with_reducible rfl
        rotate_left
        ·simp only [Act.put, List.setIfInBounds_toArray, List.set_cons_zero, List.set_cons_succ, i64_w, i32_w]
         rfl
        refine pure_ (i := 15) (N := some 62) (v := ?_) (a' := ?_) #[true, true, true, true, true, true, true, true, true, true, true, true, true, true, true, true, false, false, false, false, false, false, false, false, false, false, false, false, false, false, false, false, false, false, false, false, false] rfl rfl (any_of HT_.out (by kernel_rfl)) (fun _ _ _ h => h) (Or.inl ⟨by rfl, ?_⟩) ?_ ?_
        rotate_left
        ·intro w'
         go_simp
         with_reducible rfl
        rotate_left
        ·simp only [Act.put, List.setIfInBounds_toArray, List.set_cons_zero, List.set_cons_succ, i64_w, i32_w]
         rfl
        refine pure_ (i := 16) (N := some 63) (v := ?_) (a' := ?_) #[true, true, true, true, true, true, true, true, true, true, true, true, true, true, true, true, true, false, false, false, false, false, false, false, false, false, false, false, false, false, false, false, false, false, false, false, false] rfl rfl (any_of HT_.out (by kernel_rfl)) (fun _ _ _ h => h) (Or.inl ⟨by rfl, ?_⟩) ?_ ?_
        rotate_left
        ·intro w'
         go_simp
         with_reducible rfl
        rotate_left
        ·simp only [Act.put, List.setIfInBounds_toArray, List.set_cons_zero, List.set_cons_succ, i64_w, i32_w]
         rfl
        refine pure_ (i := 17) (N := some 64) (v := ?_) (a' := ?_) #[true, true, true, true, true, true, true, true, true, true, true, true, true, true, true, true, true, true, false, false, false, false, false, false, false, false, false, false, false, false, false, false, false, false, false, false, false] rfl rfl (any_of HT_.out (by kernel_rfl)) (fun _ _ _ h => h) (Or.inl ⟨by rfl, ?_⟩) ?_ ?_
        rotate_left
        ·intro w'
         go_simp
         with_reducible rfl
        rotate_left
        ·simp only [Act.put, List.setIfInBounds_toArray, List.set_cons_zero, List.set_cons_succ, i64_w, i32_w]
         rfl
        refine one_ (i := 18) (N := some 65) #[true, true, true, true, true, true, true, true, true, true, true, true, true, true, true, true, true, true, true, false, false, false, false, false, false, false, false, false, false, false, false, false, false, false, false, false, false] rfl rfl (one_of HT_.out (by kernel_rfl)) (by decide) (fun K hK => ?_)
        refine Kd.R_lit_step (Kd.int .i64) _ 3 ?hg (N := 65) ?hd (xs := ([2] : List Int)) (inner := [.int .i64 2]) (ok := fun _ => True) (okp := fun _ => True) ?hr ?hp (fun _ hk => hk) trivial (Below.refl _ _) (Nat.le_refl _) (by simp) ?_; (case hd => rfl); (case hg => rfl); (case hr => first | (go_simp; done) | (go_simp; rfl)); (case hp => exact (Reps.one (show Kd.M (Kd.int .i64) _ _ _ 2 [.int .i64 2] from rfl) (Reps.none _ _)))
        intro v313 w65 ho66 hb hg_ hnew_
        clear hg_ hnew_
        (first | rw [← Ny312.out] at ho66 | (simp only [Int.reduceToNat] at ho66; rw [← Ny312.out] at ho66))
        have n0_ := Aside0.mk (Kd.R_below (rK HO284) hb)
        have n1_ := Aside0.mk (Kd.R_below (rK HO289) hb)
        have n2_ := Aside0.mk (Kd.R_below (rK HO294) hb)
        have n3_ := Aside0.mk (Kd.N_elder' (nK HO297) (Kd.R_base ho66) hb)
        have n4_ := Aside0.mk (Kd.R_elder' (rK HO301) (Kd.R_base ho66) hb)
        have n5_ := Aside0.mk (Kd.R_below (rK HO304) hb)
        have n6_ := Aside0.mk (Kd.R_elder' (rK HO307) (Kd.R_base ho66) hb)
        have n7_ := Aside0.mk (Kd.R_lower (Kd.R_new' (Kd.R_new' ho66 (Kd.R_lt (rK HO301))) (Kd.R_lt (rK HO307))) (below_size bS))
        have n8_ := Aside0.mk (blk_below (g := gb273) (o := .cells #[.bool false, .slice Ao25 y270.length co25] 25 (0, 0)) (bK BK273) hb)
        have n9_ := Aside0.mk (blk_below (g := gb277) (o := .cells #[.bool true, .slice Ao30 y274.length co30] 25 (0, 0)) (bK BK277) hb)
        have n10_ := Aside0.mk (blk_below (g := gb281) (o := .cells #[.bool false, .slice Ao36 y278.length co36] 25 (0, 0)) (bK BK281) hb)
        have n11_ := Aside0.mk (below_step bS hb)
        have mHC_ := Aside0.mk (below_step (by repeat (first | (with_reducible first | exact HC.out | apply below_alloc | apply pw_below_drewN | apply below_drew1 | refine below_set ?_ GE273.out | refine below_set ?_ GE277.out | refine below_set ?_ GE281.out) | exact HC.out)) hb)
        clear HO284 HO289 HO294 HO297 HO301 HO304 HO307 BK273 BK277 BK281
        (try clear HC)
        clear HB
        have HO284 := n0_
        have HO289 := n1_
        have HO294 := n2_
        have HO297 := n3_
        have HO301 := n4_
        have HO304 := n5_
        have HO307 := n6_
        have HO314 := n7_
        have BK273 := n8_
        have BK277 := n9_
        have BK281 := n10_
        have HB := n11_
        have HC := mHC_
        clear n0_ n1_ n2_ n3_ n4_ n5_ n6_ n7_ n8_ n9_ n10_ n11_ hb ho66
        obtain ⟨Ao67, co67, eo67⟩ := Kd.R_slice HO301.out
        (first | subst eo67 | (injection eo67 with f1_ f2_ f3_; have f4_ := f1_.symm; have f5_ := f3_.symm; clear f1_ f2_ f3_; subst f4_; subst f5_))
        obtain ⟨Ao68, co68, eo68⟩ := Kd.R_slice HO314.out
        (first | subst eo68 | (injection eo68 with f1_ f2_ f3_; have f4_ := f1_.symm; have f5_ := f3_.symm; clear f1_ f2_ f3_; subst f4_; subst f5_))
        refine hK.out _ _ ⟨(blk_cell BK273.out 0).trans rfl, (blk_cell BK273.out 1).trans rfl⟩ (fun hHeld => ?_)
        clear hK K
        refine norm_ (a' := ?_) ?_ ?_
        rotate_left
        ·show Act.put _ (some 65) _ = _
         simp only [Act.put, List.setIfInBounds_toArray, List.set_cons_zero, List.set_cons_succ, i64_w, i32_w]
         rfl
        refine one_ (i := 19) (N := some 66) #[true, true, true, true, true, true, true, true, true, true, true, true, true, true, true, true, true, true, true, true, false, false, false, false, false, false, false, false, false, false, false, false, false, false, false, false, false] rfl rfl (one_of HT_.out (by kernel_rfl)) (by decide) (fun K hK => ?_)
        refine goes_ Tryd.func21 (by kernel_rfl) rfl #[.slice Ao67 t298.length co67, .slice Ao68 y312.length co68] (by rfl) rfl rfl mA ?_
        with_reducible refine (quaerelaw0_SameInts.calls k _ _ t298 _ _ y312 true _ ?side1 ?side2 ?side3 ?side4 A15.out).mono ?_
        (case side1 => exact cK ((Kd.R_reads' HO301.out).2.2))
        (case side2 => exact (Kd.R_reads' HO301.out).2.1)
        (case side3 => exact cK ((Kd.R_reads' HO314.out).2.2))
        (case side4 => exact (Kd.R_reads' HO314.out).2.1)
        rintro e w' ⟨rfl, ⟨nd, rfl⟩⟩
        refine ⟨_, rfl, ?_⟩
        refine hK.out _ _ ⟨(blk_cell BK273.out 0).trans rfl, (blk_cell BK273.out 1).trans rfl⟩ (fun hHeld => ?_)
        clear hK K
        refine norm_ (a' := ?_) ?_ ?_
        rotate_left
        ·show Act.put _ (some 66) _ = _
         simp only [Act.put, List.setIfInBounds_toArray, List.set_cons_zero, List.set_cons_succ, i64_w, i32_w]
         rfl
        refine pure_ (i := 20) (N := some 67) (v := ?_) (a' := ?_) #[true, true, true, true, true, true, true, true, true, true, true, true, true, true, true, true, true, true, true, true, true, false, false, false, false, false, false, false, false, false, false, false, false, false, false, false, false] rfl rfl (any_of HT_.out (by kernel_rfl)) (fun _ _ _ h => h) (Or.inl ⟨by rfl, ?_⟩) ?_ ?_
        rotate_left
        ·intro w'
         go_simp
         with_reducible rfl
        rotate_left
        ·simp only [Act.put, List.setIfInBounds_toArray, List.set_cons_zero, List.set_cons_succ, i64_w, i32_w]
         rfl
        refine pure_ (i := 21) (N := some 68) (v := ?_) (a' := ?_) #[true, true, true, true, true, true, true, true, true, true, true, true, true, true, true, true, true, true, true, true, true, true, false, false, false, false, false, false, false, false, false, false, false, false, false, false, false] rfl rfl (any_of HT_.out (by kernel_rfl)) (fun _ _ _ h => h) (Or.inl ⟨by rfl, ?_⟩) ?_ ?_
        rotate_left
        ·intro w'
         go_simp
         with_reducible rfl
        rotate_left
        ·simp only [Act.put, List.setIfInBounds_toArray, List.set_cons_zero, List.set_cons_succ, i64_w, i32_w]
         rfl
        refine pure_ (i := 22) (N := some 69) (v := ?_) (a' := ?_) #[true, true, true, true, true, true, true, true, true, true, true, true, true, true, true, true, true, true, true, true, true, true, true, false, false, false, false, false, false, false, false, false, false, false, false, false, false] rfl rfl (any_of HT_.out (by kernel_rfl)) (fun _ _ _ h => h) (Or.inl ⟨by rfl, ?_⟩) ?_ ?_
        rotate_left
        ·intro w'
         go_simp
         with_reducible rfl
        rotate_left
        ·simp only [Act.put, List.setIfInBounds_toArray, List.set_cons_zero, List.set_cons_succ, i64_w, i32_w]
         rfl
        refine one_ (i := 23) (N := some 70) #[true, true, true, true, true, true, true, true, true, true, true, true, true, true, true, true, true, true, true, true, true, true, true, true, false, false, false, false, false, false, false, false, false, false, false, false, false] rfl rfl (one_of HT_.out (by kernel_rfl)) (by decide) (fun K hK => ?_)
        refine goes_ Tryd.func16 (by kernel_rfl) rfl #[.int .i64 t299] (by rfl) rfl rfl mA ?_
        with_reducible refine (quaerelaw0_Num.calls t299 t316 _ A17.out).mono ?_
        rintro e w' ⟨rfl, ⟨nd, rfl⟩⟩
        refine ⟨_, rfl, ?_⟩
        refine hK.out _ _ ⟨(blk_cell BK273.out 0).trans rfl, (blk_cell BK273.out 1).trans rfl⟩ (fun hHeld => ?_)
        clear hK K
        refine norm_ (a' := ?_) ?_ ?_
        rotate_left
        ·show Act.put _ (some 70) _ = _
         simp only [Act.put, List.setIfInBounds_toArray, List.set_cons_zero, List.set_cons_succ, i64_w, i32_w]
         rfl
        refine pure_ (i := 24) (N := some 71) (v := ?_) (a' := ?_) #[true, true, true, true, true, true, true, true, true, true, true, true, true, true, true, true, true, true, true, true, true, true, true, true, true, false, false, false, false, false, false, false, false, false, false, false, false] rfl rfl (any_of HT_.out (by kernel_rfl)) (fun _ _ _ h => h) (Or.inl ⟨by rfl, ?_⟩) ?_ ?_
        rotate_left
        ·intro w'
         go_simp
         with_reducible rfl
        rotate_left
        ·simp only [Act.put, List.setIfInBounds_toArray, List.set_cons_zero, List.set_cons_succ, i64_w, i32_w]
         rfl
        refine pure_ (i := 25) (N := some 72) (v := ?_) (a' := ?_) #[true, true, true, true, true, true, true, true, true, true, true, true, true, true, true, true, true, true, true, true, true, true, true, true, true, true, false, false, false, false, false, false, false, false, false, false, false] rfl rfl (any_of HT_.out (by kernel_rfl)) (fun _ _ _ h => h) (Or.inl ⟨by rfl, ?_⟩) ?_ ?_
        rotate_left
        ·intro w'
         go_simp
         with_reducible rfl
        rotate_left
        ·simp only [Act.put, List.setIfInBounds_toArray, List.set_cons_zero, List.set_cons_succ, i64_w, i32_w]
         rfl
        refine pure_ (i := 26) (N := some 73) (v := ?_) (a' := ?_) #[true, true, true, true, true, true, true, true, true, true, true, true, true, true, true, true, true, true, true, true, true, true, true, true, true, true, true, false, false, false, false, false, false, false, false, false, false] rfl rfl (any_of HT_.out (by kernel_rfl)) (fun _ _ _ h => h) (Or.inl ⟨by rfl, ?_⟩) ?_ ?_
        rotate_left
        ·intro w'
         go_simp
         with_reducible rfl
        rotate_left
        ·simp only [Act.put, List.setIfInBounds_toArray, List.set_cons_zero, List.set_cons_succ, i64_w, i32_w]
         rfl
        refine pure_ (i := 27) (N := some 74) (v := ?_) (a' := ?_) #[true, true, true, true, true, true, true, true, true, true, true, true, true, true, true, true, true, true, true, true, true, true, true, true, true, true, true, true, false, false, false, false, false, false, false, false, false] rfl rfl (any_of HT_.out (by kernel_rfl)) (fun _ _ _ h => h) (Or.inl ⟨by rfl, ?_⟩) ?_ ?_
        rotate_left
        ·intro w'
         go_simp
         with_reducible rfl
        rotate_left
        ·simp only [Act.put, List.setIfInBounds_toArray, List.set_cons_zero, List.set_cons_succ, i64_w, i32_w]
         rfl
        refine one_ (i := 28) (N := some 75) #[true, true, true, true, true, true, true, true, true, true, true, true, true, true, true, true, true, true, true, true, true, true, true, true, true, true, true, true, true, false, false, false, false, false, false, false, false] rfl rfl (one_of HT_.out (by kernel_rfl)) (by decide) (fun K hK => ?_)
        refine goes_ Tryd.func16 (by kernel_rfl) rfl #[.int .i64 t309] (by rfl) rfl rfl mA ?_
        with_reducible refine (quaerelaw0_Num.calls t309 t317 _ A19.out).mono ?_
        rintro e w' ⟨rfl, ⟨nd, rfl⟩⟩
        refine ⟨_, rfl, ?_⟩
        refine hK.out _ _ ⟨(blk_cell BK273.out 0).trans rfl, (blk_cell BK273.out 1).trans rfl⟩ (fun hHeld => ?_)
        clear hK K
        refine norm_ (a' := ?_) ?_ ?_
        rotate_left
        ·show Act.put _ (some 75) _ = _
         simp only [Act.put, List.setIfInBounds_toArray, List.set_cons_zero, List.set_cons_succ, i64_w, i32_w]
         rfl
        refine pure_ (i := 29) (N := some 76) (v := ?_) (a' := ?_) #[true, true, true, true, true, true, true, true, true, true, true, true, true, true, true, true, true, true, true, true, true, true, true, true, true, true, true, true, true, true, false, false, false, false, false, false, false] rfl rfl (any_of HT_.out (by kernel_rfl)) (fun _ _ _ h => h) (Or.inl ⟨by rfl, ?_⟩) ?_ ?_
        rotate_left
        ·intro w'
         go_simp
         with_reducible rfl
        rotate_left
        ·simp only [Act.put, List.setIfInBounds_toArray, List.set_cons_zero, List.set_cons_succ, i64_w, i32_w]
         rfl
        refine pure_ (i := 30) (N := some 77) (v := ?_) (a' := ?_) #[true, true, true, true, true, true, true, true, true, true, true, true, true, true, true, true, true, true, true, true, true, true, true, true, true, true, true, true, true, true, true, false, false, false, false, false, false] rfl rfl (any_of HT_.out (by kernel_rfl)) (fun _ _ _ h => h) (Or.inl ⟨by rfl, ?_⟩) ?_ ?_
        rotate_left
        ·intro w'
         go_simp
         with_reducible rfl
        rotate_left
        ·simp only [Act.put, List.setIfInBounds_toArray, List.set_cons_zero, List.set_cons_succ, i64_w, i32_w]
         rfl
        refine pure_ (i := 31) (N := some 78) (v := ?_) (a' := ?_) #[true, true, true, true, true, true, true, true, true, true, true, true, true, true, true, true, true, true, true, true, true, true, true, true, true, true, true, true, true, true, true, true, false, false, false, false, false] rfl rfl (any_of HT_.out (by kernel_rfl)) (fun _ _ _ h => h) (Or.inl ⟨by rfl, ?_⟩) ?_ ?_
        rotate_left
        ·intro w'
         go_simp
         with_reducible rfl
        rotate_left
        ·simp only [Act.put, List.setIfInBounds_toArray, List.set_cons_zero, List.set_cons_succ, i64_w, i32_w]
         rfl
        refine take_ (i := 33) (N := some 80) (v := ?_) (a' := ?_) #[true, true, true, true, true, true, true, true, true, true, true, true, true, true, true, true, true, true, true, true, true, true, true, true, true, true, true, true, true, true, true, true, false, true, false, false, false] rfl rfl (take_ofW HT_.out HW_.out (by kernel_rfl)) (fun _ _ _ h => h) (Or.inl ⟨by rfl, ?_⟩) hHeld ?_ ?_
        rotate_left
        ·rintro w' ⟨s0, s1⟩
         go_simp
         with_reducible rfl
        rotate_left
        ·simp only [Act.put, List.setIfInBounds_toArray, List.set_cons_zero, List.set_cons_succ, i64_w, i32_w]
         rfl
        refine one_ (i := 32) (N := some 79) #[true, true, true, true, true, true, true, true, true, true, true, true, true, true, true, true, true, true, true, true, true, true, true, true, true, true, true, true, true, true, true, true, true, true, false, false, false] rfl rfl (one_of HT_.out (by kernel_rfl)) (by decide) (fun K hK => ?_)
        refine goes_ Tryd.func30 (by kernel_rfl) rfl #[] (by rfl) rfl rfl mA ?_
        with_reducible refine (quaerelaw7_words.calls  t318 _ A21.out).mono ?_
        rintro e w69 ⟨v319, rfl, ho0, hb⟩
        refine ⟨_, rfl, ?_⟩
        have n0_ := Aside0.mk (Kd.R_elder' (rK HO284) (Kd.R_base ho0) hb)
        have n1_ := Aside0.mk (Kd.R_elder' (rK HO289) (Kd.R_base ho0) hb)
        have n2_ := Aside0.mk (Kd.R_elder' (rK HO294) (Kd.R_base ho0) hb)
        have n3_ := Aside0.mk (Kd.N_elder' (nK HO297) (Kd.R_base ho0) hb)
        have n4_ := Aside0.mk (Kd.R_below (rK HO301) hb)
        have n5_ := Aside0.mk (Kd.R_elder' (rK HO304) (Kd.R_base ho0) hb)
        have n6_ := Aside0.mk (Kd.R_below (rK HO307) hb)
        have n7_ := Aside0.mk (Kd.R_below (rK HO314) hb)
        have n8_ := Aside0.mk (Kd.R_lower (Kd.R_new' (Kd.R_new' (Kd.R_new' (Kd.R_new' ho0 (Kd.R_lt (rK HO284))) (Kd.R_lt (rK HO289))) (Kd.R_lt (rK HO294))) (Kd.R_lt (rK HO304))) (below_size bS))
        have n9_ := Aside0.mk (blk_below (g := gb273) (o := .cells #[.bool false, .slice Ao25 y270.length co25] 25 (0, 0)) (bK BK273) hb)
        have n10_ := Aside0.mk (blk_below (g := gb277) (o := .cells #[.bool true, .slice Ao30 y274.length co30] 25 (0, 0)) (bK BK277) hb)
        have n11_ := Aside0.mk (blk_below (g := gb281) (o := .cells #[.bool false, .slice Ao36 y278.length co36] 25 (0, 0)) (bK BK281) hb)
        have n12_ := Aside0.mk (below_step bS hb)
        have mHC_ := Aside0.mk (below_step (by repeat (first | (with_reducible first | exact HC.out | apply below_alloc | apply pw_below_drewN | apply below_drew1 | refine below_set ?_ GE273.out | refine below_set ?_ GE277.out | refine below_set ?_ GE281.out) | exact HC.out)) hb)
        clear HO284 HO289 HO294 HO297 HO301 HO304 HO307 HO314 BK273 BK277 BK281
        (try clear HC)
        clear HB
        have HO284 := n0_
        have HO289 := n1_
        have HO294 := n2_
        have HO297 := n3_
        have HO301 := n4_
        have HO304 := n5_
        have HO307 := n6_
        have HO314 := n7_
        have HO320 := n8_
        have BK273 := n9_
        have BK277 := n10_
        have BK281 := n11_
        have HB := n12_
        have HC := mHC_
        clear n0_ n1_ n2_ n3_ n4_ n5_ n6_ n7_ n8_ n9_ n10_ n11_ n12_
        (try clear hb)
        (try clear hb2)
        (try clear hk)
        (try clear hi)
        (try clear ho0)
        obtain ⟨Ao70, co70, eo70⟩ := Kd.R_slice HO320.out
        (first | subst eo70 | (injection eo70 with f1_ f2_ f3_; have f4_ := f1_.symm; have f5_ := f3_.symm; clear f1_ f2_ f3_; subst f4_; subst f5_))
        refine hK.out _ _ ⟨(blk_cell BK273.out 0).trans rfl, (blk_cell BK273.out 1).trans rfl⟩ (fun hHeld => ?_)
        clear hK K
        refine norm_ (a' := ?_) ?_ ?_
        rotate_left
        ·show Act.put _ (some 79) _ = _
         simp only [Act.put, List.setIfInBounds_toArray, List.set_cons_zero, List.set_cons_succ, i64_w, i32_w]
         rfl
        refine one_ (i := 34) (N := some 81) #[true, true, true, true, true, true, true, true, true, true, true, true, true, true, true, true, true, true, true, true, true, true, true, true, true, true, true, true, true, true, true, true, true, true, true, false, false] rfl rfl (one_of HT_.out (by kernel_rfl)) (by decide) (fun K hK => ?_)
        refine goes_ Tryd.func14 (by kernel_rfl) rfl #[.slice Ao70 t318.length co70, .agg #[.bool false, .slice Ao25 y270.length co25]] (by rfl) rfl rfl mA ?_
        with_reducible refine (lit_May.calls (hG := gK) k _ _ t318 false _ _ y270 t321 _ ?side1 ?side2 ?side3 ?side4 A22.out).mono ?_
        (case side1 => exact cK ((Kd.R_reads' HO320.out).2.2))
        (case side2 => exact (Kd.R_reads' HO320.out).2.1)
        (case side3 => exact cK (Kd.C_below hC282 HC.out))
        (case side4 => exact hL282)
        rintro e w71 ⟨rfl, hb⟩
        refine ⟨_, rfl, ?_⟩
        have n0_ := Aside0.mk (Kd.R_below (rK HO284) hb)
        have n1_ := Aside0.mk (Kd.R_below (rK HO289) hb)
        have n2_ := Aside0.mk (Kd.R_below (rK HO294) hb)
        have n3_ := Aside0.mk (Kd.N_below (nK HO297) hb)
        have n4_ := Aside0.mk (Kd.R_below (rK HO301) hb)
        have n5_ := Aside0.mk (Kd.R_below (rK HO304) hb)
        have n6_ := Aside0.mk (Kd.R_below (rK HO307) hb)
        have n7_ := Aside0.mk (Kd.R_below (rK HO314) hb)
        have n8_ := Aside0.mk (Kd.R_below (rK HO320) hb)
        have n9_ := Aside0.mk (blk_below (g := gb273) (o := .cells #[.bool false, .slice Ao25 y270.length co25] 25 (0, 0)) (bK BK273) hb)
        have n10_ := Aside0.mk (blk_below (g := gb277) (o := .cells #[.bool true, .slice Ao30 y274.length co30] 25 (0, 0)) (bK BK277) hb)
        have n11_ := Aside0.mk (blk_below (g := gb281) (o := .cells #[.bool false, .slice Ao36 y278.length co36] 25 (0, 0)) (bK BK281) hb)
        have n12_ := Aside0.mk (below_step bS hb)
        have mHC_ := Aside0.mk (below_step (by repeat (first | (with_reducible first | exact HC.out | apply below_alloc | apply pw_below_drewN | apply below_drew1 | refine below_set ?_ GE273.out | refine below_set ?_ GE277.out | refine below_set ?_ GE281.out) | exact HC.out)) hb)
        clear HO284 HO289 HO294 HO297 HO301 HO304 HO307 HO314 HO320 BK273 BK277 BK281
        (try clear HC)
        clear HB
        have HO284 := n0_
        have HO289 := n1_
        have HO294 := n2_
        have HO297 := n3_
        have HO301 := n4_
        have HO304 := n5_
        have HO307 := n6_
        have HO314 := n7_
        have HO320 := n8_
        have BK273 := n9_
        have BK277 := n10_
        have BK281 := n11_
        have HB := n12_
        have HC := mHC_
        clear n0_ n1_ n2_ n3_ n4_ n5_ n6_ n7_ n8_ n9_ n10_ n11_ n12_
        (try clear hb)
        (try clear hb2)
        (try clear hk)
        (try clear hi)
        refine hK.out _ _ ⟨(blk_cell BK273.out 0).trans rfl, (blk_cell BK273.out 1).trans rfl⟩ (fun hHeld => ?_)
        clear hK K
        refine norm_ (a' := ?_) ?_ ?_
        rotate_left
        ·show Act.put _ (some 81) _ = _
         simp only [Act.put, List.setIfInBounds_toArray, List.set_cons_zero, List.set_cons_succ, i64_w, i32_w]
         rfl
        refine pure_ (i := 35) (N := some 82) (v := ?_) (a' := ?_) #[true, true, true, true, true, true, true, true, true, true, true, true, true, true, true, true, true, true, true, true, true, true, true, true, true, true, true, true, true, true, true, true, true, true, true, true, false] rfl rfl (any_of HT_.out (by kernel_rfl)) (fun _ _ _ h => h) (Or.inl ⟨by rfl, ?_⟩) ?_ ?_
        rotate_left
        ·intro w'
         go_simp
         with_reducible rfl
        rotate_left
        ·simp only [Act.put, List.setIfInBounds_toArray, List.set_cons_zero, List.set_cons_succ, i64_w, i32_w]
         rfl
        refine pure_ (i := 36) (N := some 0) (v := ?_) (a' := ?_) #[true, true, true, true, true, true, true, true, true, true, true, true, true, true, true, true, true, true, true, true, true, true, true, true, true, true, true, true, true, true, true, true, true, true, true, true, true] rfl rfl (any_of HT_.out (by kernel_rfl)) (fun _ _ _ h => h) (Or.inl ⟨by rfl, ?_⟩) ?_ ?_
        rotate_left
        ·intro w'
         go_simp
         with_reducible rfl
        rotate_left
        ·simp only [Act.put, List.setIfInBounds_toArray, List.set_cons_zero, List.set_cons_succ, i64_w, i32_w]
         rfl
        refine done_ (done_of HT_.out (by kernel_rfl)) ?_
        try go_wp2
        go_ret
        exact ⟨eK, bS⟩
       ·rw [if_neg c20] at H
        exact absurd H (by simp)
      ·rw [if_neg c18] at H
       exact absurd H (by simp)
     ·replace c16 := Bool.eq_false_iff.mpr c16
      subst c16
      have H1 : (none) = some r := by rw [if_neg (show ¬ (false = true) by decide)] at H; exact H
      clear H
      have H := H1
      clear H1
      exact absurd H (by simp)
    ·rw [if_neg c14] at H
     exact absurd H (by simp)
   ·rw [if_neg c12] at H
    exact absurd H (by simp)
  ·rw [if_neg c11] at H
   exact absurd H (by simp)
 ·rw [if_neg c9] at H
  exact absurd H (by simp)

end Go.Proofs.YtfnemhkiopgeaaaDoor.PK
