-- written by a program of this session's (wip/tools/pp.py), after the kit's print
import Derived.Test.YtfnemhkiopgeaaaDoorPLx0
import Derived.Test.YtfnemhkiopgeaaaDoorPLx4
import Derived.Test.YtfnemhkiopgeaaaDoorPLx5
import Derived.Test.YtfnemhkiopgeaaaDoorPLx14
import Derived.Test.YtfnemhkiopgeaaaDoorPLx15
namespace Go.Proofs.YtfnemhkiopgeaaaDoor.PL
open Go.RowKit Go.Proofs.YtfnemhkiopgeaaaDoorW.PrintWords Go.Proofs.YtfnemhkiopgeaaaDoorW.PrintLast Go.Proofs.YtfnemhkiopgeaaaDoorW.PrintMore
attribute [local go_sem] jump_ret max2_int min2_int max_two min_two max_three min_three max_four min_four   -- for this text's walks alone
set_option linter.unusedVariables false
set_option linter.unusedSimpArgs false

/-! ### quaerelaw7_awake: function 18 -/
def quaerelaw7_awake.f (k : Nat)  : Option (Bool) := (some (([5, (-1)] : List Int) : List Int)).bind fun y280 => ((some (([5, (-1)] : List Int) : List Int)).bind fun y284 => ((some (([5, 3, (-1)] : List Int) : List Int)).bind fun y288 => ((quaerelaw7_words.f).bind fun t292 => ((lit_Weight.f k t292 false y288).bind fun bt295 => ((quaerelaw7_words.f).bind fun t297 => ((lit_Compare.f k t297 true y284 false y280).bind fun bt300 => ((quaerelaw7_words.f).bind fun t302 => ((lit_Tops.f k t302 (([(⟨false, y280⟩ : S25), (⟨true, y284⟩ : S25), (⟨false, y288⟩ : S25)] : List (S25)))).bind fun bt308 => ((quaerelaw7_words.f).bind fun t312 => ((lit_Weight.f k t312 false (([3, 1] : List Int))).bind fun bt318 => (if bt295.1 = 3 then ((quaerelaw0_Num.f bt295.2).bind fun t320 => (if t320 = 0 then (if bt300.1 = 2 then ((quaerelaw0_Num.f bt300.2).bind fun t321 => (if t321 = 0 then ((quaerelaw0_SameInts.f k bt308.1 (([2] : List Int))).bind fun t325 => (if t325 = true then ((quaerelaw0_Num.f bt308.2).bind fun t326 => (if t326 = 0 then ((quaerelaw0_Num.f bt318.2).bind fun t327 => (if t327 = 700 then ((quaerelaw7_words.f).bind fun t328 => ((lit_May.f k t328 false y280).bind fun t331 => (some t331))) else (none))) else (none))) else (none))) else (none))) else (none)) else (none))) else (none))))))))))))
theorem quaerelaw7_awake.mono : ∀ k, LeO (quaerelaw7_awake.f k ) (quaerelaw7_awake.f (k + 1) ) := by
 intro  k
 unfold quaerelaw7_awake.f
 repeat' first
   | (with_reducible exact lit_Compare.mono _ _ _ _ _ _)
   | (with_reducible exact lit_May.mono _ _ _ _)
   | (with_reducible exact lit_Tops.mono _ _ _)
   | (with_reducible exact lit_Weight.mono _ _ _ _)
   | (with_reducible exact quaerelaw0_SameInts.mono _ _ _)
   | (with_reducible exact LeO.refl _)
   | (with_reducible exact LeO.none _)
   | (with_reducible refine LeO.ite ?_ ?_)
   | (with_reducible refine LeO.bind ?_ (fun _ => ?_))
   | exact lit_Compare.mono _ _ _ _ _ _
   | exact lit_May.mono _ _ _ _
   | exact lit_Tops.mono _ _ _
   | exact lit_Weight.mono _ _ _ _
   | exact quaerelaw0_SameInts.mono _ _ _
   | exact LeO.none _
   | refine LeO.ite ?_ ?_
   | refine LeO.bind ?_ (fun _ => ?_)
def quaerelaw7_awake.T4 : Bool × List (List Nat × List Nat) := (true, [([], []), ([], []), ([0, 1, 0], [0, 1]), ([2], [2]), ([3], [3]), ([3], [3]), ([4, 2, 0, 1, 2, 3, 4], [4]), ([5, 6, 0, 1, 2, 3, 4, 5, 6], [5])])
def quaerelaw7_awake.B4 : List Nat := [0, 0, 3, 7, 15, 15, 31, 127]
theorem quaerelaw7_awake.tab4 : rtab .any (opsOf Tryd.f18 4) = quaerelaw7_awake.T4 := by kernel_rfl
theorem quaerelaw7_awake.bits4 : waitsOk quaerelaw7_awake.T4.2 quaerelaw7_awake.B4 = true := by kernel_rfl
def quaerelaw7_awake.T5 : Bool × List (List Nat × List Nat) := (true, [([], []), ([], []), ([], []), ([0, 1, 2, 0], [0, 1, 2]), ([3], [3]), ([4], [4]), ([4], [4]), ([5, 3, 0, 1, 2, 3, 4, 5], [5]), ([6, 7, 0, 1, 2, 3, 4, 5, 6, 7], [6])])
def quaerelaw7_awake.B5 : List Nat := [0, 0, 0, 7, 15, 31, 31, 63, 255]
theorem quaerelaw7_awake.tab5 : rtab .any (opsOf Tryd.f18 5) = quaerelaw7_awake.T5 := by kernel_rfl
theorem quaerelaw7_awake.bits5 : waitsOk quaerelaw7_awake.T5.2 quaerelaw7_awake.B5 = true := by kernel_rfl
def quaerelaw7_awake.T6 : Bool × List (List Nat × List Nat) := (true, [([], []), ([], []), ([], []), ([], []), ([1, 2, 3], [1, 2, 3]), ([0, 4, 0], [0, 4]), ([5], [5]), ([6], [6]), ([6], [6]), ([7, 5, 0, 1, 2, 3, 4, 5, 6, 7], [7]), ([8, 9, 0, 1, 2, 3, 4, 5, 6, 7, 8, 9], [8])])
def quaerelaw7_awake.B6 : List Nat := [0, 0, 0, 0, 14, 31, 63, 127, 127, 255, 1023]
theorem quaerelaw7_awake.tab6 : rtab .any (opsOf Tryd.f18 6) = quaerelaw7_awake.T6 := by kernel_rfl
theorem quaerelaw7_awake.bits6 : waitsOk quaerelaw7_awake.T6.2 quaerelaw7_awake.B6 = true := by kernel_rfl
def quaerelaw7_awake.T8 : Bool × List (List Nat × List Nat) := (true, [([], []), ([0], [0]), ([1], [1]), ([2], [2]), ([3, 2, 2], [2, 3]), ([4, 2], [2, 4]), ([2, 5], [2, 5]), ([6, 4], [6]), ([7], [7]), ([8, 7], [7, 8]), ([7, 9], [7, 9]), ([10, 7], [10]), ([11], [11]), ([12, 11, 11], [11, 12]), ([13, 11], [11, 13]), ([11, 14], [11, 14]), ([15, 13], [15]), ([16], [16]), ([16], [16]), ([17, 18, 16, 16], [16, 17, 18]), ([16, 19], [16, 19]), ([20, 19], [20]), ([21], [21]), ([22, 21, 21], [21, 22]), ([23, 21], [21, 23]), ([21, 24], [21, 24]), ([25, 23], [25]), ([26], [26]), ([27, 26, 26], [26, 27]), ([28, 26], [26, 28]), ([26, 29], [26, 29]), ([30, 28], [30]), ([31, 31], [31]), ([31], [31]), ([32, 33, 32, 31], [31, 32, 33]), ([31, 34], [31, 34]), ([35, 34, 0, 1, 2, 3, 4, 5, 6, 7, 8, 9, 10, 11, 12, 13, 14, 15, 16, 17, 18, 19, 20, 21, 22, 23, 24, 25, 26, 27, 28, 29, 30, 31, 32, 33, 34, 35], [35])])
def quaerelaw7_awake.B8 : List Nat := [0, 1, 3, 7, 15, 31, 63, 127, 255, 511, 1023, 2047, 4095, 8191, 16383, 32767, 65535, 131071, 131071, 524287, 1048575, 2097151, 4194303, 8388607, 16777215, 33554431, 67108863, 134217727, 268435455, 536870911, 1073741823, 2147483647, 4294967295, 4294967295, 17179869183, 34359738367, 68719476735]
theorem quaerelaw7_awake.tab8 : rtab .any (opsOf Tryd.f18 8) = quaerelaw7_awake.T8 := by kernel_rfl
theorem quaerelaw7_awake.bits8 : waitsOk quaerelaw7_awake.T8.2 quaerelaw7_awake.B8 = true := by kernel_rfl
set_option maxHeartbeats 8000000 in
set_option maxRecDepth 100000 in
theorem quaerelaw7_awake.calls (k : Nat)  (r : Bool) (w : World) (h : quaerelaw7_awake.f k  = some r) (hG : Glob w) :
  Calls Tryd.prog 18 #[] w fun e w' => e = .returned (.bool r) ∧ Below w.heap.size w w' := by
 have hu25 := Tryd.underlying25
 have HB := Aside0.mk (Below.refl w.heap.size w)
 have H : ((some (([5, (-1)] : List Int) : List Int)).bind fun y280 => ((some (([5, (-1)] : List Int) : List Int)).bind fun y284 => ((some (([5, 3, (-1)] : List Int) : List Int)).bind fun y288 => ((quaerelaw7_words.f).bind fun t292 => ((lit_Weight.f k t292 false y288).bind fun bt295 => ((quaerelaw7_words.f).bind fun t297 => ((lit_Compare.f k t297 true y284 false y280).bind fun bt300 => ((quaerelaw7_words.f).bind fun t302 => ((lit_Tops.f k t302 (([(⟨false, y280⟩ : S25), (⟨true, y284⟩ : S25), (⟨false, y288⟩ : S25)] : List (S25)))).bind fun bt308 => ((quaerelaw7_words.f).bind fun t312 => ((lit_Weight.f k t312 false (([3, 1] : List Int))).bind fun bt318 => (if bt295.1 = 3 then ((quaerelaw0_Num.f bt295.2).bind fun t320 => (if t320 = 0 then (if bt300.1 = 2 then ((quaerelaw0_Num.f bt300.2).bind fun t321 => (if t321 = 0 then ((quaerelaw0_SameInts.f k bt308.1 (([2] : List Int))).bind fun t325 => (if t325 = true then ((quaerelaw0_Num.f bt308.2).bind fun t326 => (if t326 = 0 then ((quaerelaw0_Num.f bt318.2).bind fun t327 => (if t327 = 700 then ((quaerelaw7_words.f).bind fun t328 => ((lit_May.f k t328 false y280).bind fun t331 => (some t331))) else (none))) else (none))) else (none))) else (none))) else (none)) else (none))) else (none))))))))))))) = some r := h
 clear h
 obtain ⟨y280, hy280⟩ : ∃ y_ : List Int, y_ = (([5, (-1)] : List Int)) := ⟨_, rfl⟩
 replace H : ((some (([5, (-1)] : List Int) : List Int)).bind fun y284 => ((some (([5, 3, (-1)] : List Int) : List Int)).bind fun y288 => ((quaerelaw7_words.f).bind fun t292 => ((lit_Weight.f k t292 false y288).bind fun bt295 => ((quaerelaw7_words.f).bind fun t297 => ((lit_Compare.f k t297 true y284 false y280).bind fun bt300 => ((quaerelaw7_words.f).bind fun t302 => ((lit_Tops.f k t302 (([(⟨false, y280⟩ : S25), (⟨true, y284⟩ : S25), (⟨false, y288⟩ : S25)] : List (S25)))).bind fun bt308 => ((quaerelaw7_words.f).bind fun t312 => ((lit_Weight.f k t312 false (([3, 1] : List Int))).bind fun bt318 => (if bt295.1 = 3 then ((quaerelaw0_Num.f bt295.2).bind fun t320 => (if t320 = 0 then (if bt300.1 = 2 then ((quaerelaw0_Num.f bt300.2).bind fun t321 => (if t321 = 0 then ((quaerelaw0_SameInts.f k bt308.1 (([2] : List Int))).bind fun t325 => (if t325 = true then ((quaerelaw0_Num.f bt308.2).bind fun t326 => (if t326 = 0 then ((quaerelaw0_Num.f bt318.2).bind fun t327 => (if t327 = 700 then ((quaerelaw7_words.f).bind fun t328 => ((lit_May.f k t328 false y280).bind fun t331 => (some t331))) else (none))) else (none))) else (none))) else (none))) else (none)) else (none))) else (none)))))))))))) = some r := by first | (rw [hy280]; with_reducible exact H) | (have H2_ := (Option.bind_some _ _).symm.trans H; rw [hy280]; with_reducible exact H2_) | (have H2_ := (Option.bind_some _ _).symm.trans H; with_reducible exact H2_) | with_reducible exact H | (rw [hy280]; exact H) | exact H
 have Ny280 := Aside0.mk hy280
 clear hy280
 obtain ⟨y284, hy284⟩ : ∃ y_ : List Int, y_ = (([5, (-1)] : List Int)) := ⟨_, rfl⟩
 replace H : ((some (([5, 3, (-1)] : List Int) : List Int)).bind fun y288 => ((quaerelaw7_words.f).bind fun t292 => ((lit_Weight.f k t292 false y288).bind fun bt295 => ((quaerelaw7_words.f).bind fun t297 => ((lit_Compare.f k t297 true y284 false y280).bind fun bt300 => ((quaerelaw7_words.f).bind fun t302 => ((lit_Tops.f k t302 (([(⟨false, y280⟩ : S25), (⟨true, y284⟩ : S25), (⟨false, y288⟩ : S25)] : List (S25)))).bind fun bt308 => ((quaerelaw7_words.f).bind fun t312 => ((lit_Weight.f k t312 false (([3, 1] : List Int))).bind fun bt318 => (if bt295.1 = 3 then ((quaerelaw0_Num.f bt295.2).bind fun t320 => (if t320 = 0 then (if bt300.1 = 2 then ((quaerelaw0_Num.f bt300.2).bind fun t321 => (if t321 = 0 then ((quaerelaw0_SameInts.f k bt308.1 (([2] : List Int))).bind fun t325 => (if t325 = true then ((quaerelaw0_Num.f bt308.2).bind fun t326 => (if t326 = 0 then ((quaerelaw0_Num.f bt318.2).bind fun t327 => (if t327 = 700 then ((quaerelaw7_words.f).bind fun t328 => ((lit_May.f k t328 false y280).bind fun t331 => (some t331))) else (none))) else (none))) else (none))) else (none))) else (none)) else (none))) else (none))))))))))) = some r := by first | (rw [hy284]; with_reducible exact H) | (have H2_ := (Option.bind_some _ _).symm.trans H; rw [hy284]; with_reducible exact H2_) | (have H2_ := (Option.bind_some _ _).symm.trans H; with_reducible exact H2_) | with_reducible exact H | (rw [hy284]; exact H) | exact H
 have Ny284 := Aside0.mk hy284
 clear hy284
 obtain ⟨y288, hy288⟩ : ∃ y_ : List Int, y_ = (([5, 3, (-1)] : List Int)) := ⟨_, rfl⟩
 replace H : ((quaerelaw7_words.f).bind fun t292 => ((lit_Weight.f k t292 false y288).bind fun bt295 => ((quaerelaw7_words.f).bind fun t297 => ((lit_Compare.f k t297 true y284 false y280).bind fun bt300 => ((quaerelaw7_words.f).bind fun t302 => ((lit_Tops.f k t302 (([(⟨false, y280⟩ : S25), (⟨true, y284⟩ : S25), (⟨false, y288⟩ : S25)] : List (S25)))).bind fun bt308 => ((quaerelaw7_words.f).bind fun t312 => ((lit_Weight.f k t312 false (([3, 1] : List Int))).bind fun bt318 => (if bt295.1 = 3 then ((quaerelaw0_Num.f bt295.2).bind fun t320 => (if t320 = 0 then (if bt300.1 = 2 then ((quaerelaw0_Num.f bt300.2).bind fun t321 => (if t321 = 0 then ((quaerelaw0_SameInts.f k bt308.1 (([2] : List Int))).bind fun t325 => (if t325 = true then ((quaerelaw0_Num.f bt308.2).bind fun t326 => (if t326 = 0 then ((quaerelaw0_Num.f bt318.2).bind fun t327 => (if t327 = 700 then ((quaerelaw7_words.f).bind fun t328 => ((lit_May.f k t328 false y280).bind fun t331 => (some t331))) else (none))) else (none))) else (none))) else (none))) else (none)) else (none))) else (none)))))))))) = some r := by first | (rw [hy288]; with_reducible exact H) | (have H2_ := (Option.bind_some _ _).symm.trans H; rw [hy288]; with_reducible exact H2_) | (have H2_ := (Option.bind_some _ _).symm.trans H; with_reducible exact H2_) | with_reducible exact H | (rw [hy288]; exact H) | exact H
 have Ny288 := Aside0.mk hy288
 clear hy288
 replace H := Option.bind_eq_some_iff.mp H
 obtain ⟨t292, A10, H⟩ := H
 replace H : ((lit_Weight.f k t292 false y288).bind fun bt295 => ((quaerelaw7_words.f).bind fun t297 => ((lit_Compare.f k t297 true y284 false y280).bind fun bt300 => ((quaerelaw7_words.f).bind fun t302 => ((lit_Tops.f k t302 (([(⟨false, y280⟩ : S25), (⟨true, y284⟩ : S25), (⟨false, y288⟩ : S25)] : List (S25)))).bind fun bt308 => ((quaerelaw7_words.f).bind fun t312 => ((lit_Weight.f k t312 false (([3, 1] : List Int))).bind fun bt318 => (if bt295.1 = 3 then ((quaerelaw0_Num.f bt295.2).bind fun t320 => (if t320 = 0 then (if bt300.1 = 2 then ((quaerelaw0_Num.f bt300.2).bind fun t321 => (if t321 = 0 then ((quaerelaw0_SameInts.f k bt308.1 (([2] : List Int))).bind fun t325 => (if t325 = true then ((quaerelaw0_Num.f bt308.2).bind fun t326 => (if t326 = 0 then ((quaerelaw0_Num.f bt318.2).bind fun t327 => (if t327 = 700 then ((quaerelaw7_words.f).bind fun t328 => ((lit_May.f k t328 false y280).bind fun t331 => (some t331))) else (none))) else (none))) else (none))) else (none))) else (none)) else (none))) else (none))))))))) = some r := H
 have A1 := Aside0.mk A10
 clear A10
 replace H := Option.bind_eq_some_iff.mp H
 obtain ⟨⟨t295, t296⟩, A20, H⟩ := H
 replace H : ((quaerelaw7_words.f).bind fun t297 => ((lit_Compare.f k t297 true y284 false y280).bind fun bt300 => ((quaerelaw7_words.f).bind fun t302 => ((lit_Tops.f k t302 (([(⟨false, y280⟩ : S25), (⟨true, y284⟩ : S25), (⟨false, y288⟩ : S25)] : List (S25)))).bind fun bt308 => ((quaerelaw7_words.f).bind fun t312 => ((lit_Weight.f k t312 false (([3, 1] : List Int))).bind fun bt318 => (if t295 = 3 then ((quaerelaw0_Num.f t296).bind fun t320 => (if t320 = 0 then (if bt300.1 = 2 then ((quaerelaw0_Num.f bt300.2).bind fun t321 => (if t321 = 0 then ((quaerelaw0_SameInts.f k bt308.1 (([2] : List Int))).bind fun t325 => (if t325 = true then ((quaerelaw0_Num.f bt308.2).bind fun t326 => (if t326 = 0 then ((quaerelaw0_Num.f bt318.2).bind fun t327 => (if t327 = 700 then ((quaerelaw7_words.f).bind fun t328 => ((lit_May.f k t328 false y280).bind fun t331 => (some t331))) else (none))) else (none))) else (none))) else (none))) else (none)) else (none))) else (none)))))))) = some r := H
 have A2 := Aside0.mk A20
 clear A20
 replace H := Option.bind_eq_some_iff.mp H
 obtain ⟨t297, A30, H⟩ := H
 replace H : ((lit_Compare.f k t297 true y284 false y280).bind fun bt300 => ((quaerelaw7_words.f).bind fun t302 => ((lit_Tops.f k t302 (([(⟨false, y280⟩ : S25), (⟨true, y284⟩ : S25), (⟨false, y288⟩ : S25)] : List (S25)))).bind fun bt308 => ((quaerelaw7_words.f).bind fun t312 => ((lit_Weight.f k t312 false (([3, 1] : List Int))).bind fun bt318 => (if t295 = 3 then ((quaerelaw0_Num.f t296).bind fun t320 => (if t320 = 0 then (if bt300.1 = 2 then ((quaerelaw0_Num.f bt300.2).bind fun t321 => (if t321 = 0 then ((quaerelaw0_SameInts.f k bt308.1 (([2] : List Int))).bind fun t325 => (if t325 = true then ((quaerelaw0_Num.f bt308.2).bind fun t326 => (if t326 = 0 then ((quaerelaw0_Num.f bt318.2).bind fun t327 => (if t327 = 700 then ((quaerelaw7_words.f).bind fun t328 => ((lit_May.f k t328 false y280).bind fun t331 => (some t331))) else (none))) else (none))) else (none))) else (none))) else (none)) else (none))) else (none))))))) = some r := H
 have A3 := Aside0.mk A30
 clear A30
 replace H := Option.bind_eq_some_iff.mp H
 obtain ⟨⟨t300, t301⟩, A40, H⟩ := H
 replace H : ((quaerelaw7_words.f).bind fun t302 => ((lit_Tops.f k t302 (([(⟨false, y280⟩ : S25), (⟨true, y284⟩ : S25), (⟨false, y288⟩ : S25)] : List (S25)))).bind fun bt308 => ((quaerelaw7_words.f).bind fun t312 => ((lit_Weight.f k t312 false (([3, 1] : List Int))).bind fun bt318 => (if t295 = 3 then ((quaerelaw0_Num.f t296).bind fun t320 => (if t320 = 0 then (if t300 = 2 then ((quaerelaw0_Num.f t301).bind fun t321 => (if t321 = 0 then ((quaerelaw0_SameInts.f k bt308.1 (([2] : List Int))).bind fun t325 => (if t325 = true then ((quaerelaw0_Num.f bt308.2).bind fun t326 => (if t326 = 0 then ((quaerelaw0_Num.f bt318.2).bind fun t327 => (if t327 = 700 then ((quaerelaw7_words.f).bind fun t328 => ((lit_May.f k t328 false y280).bind fun t331 => (some t331))) else (none))) else (none))) else (none))) else (none))) else (none)) else (none))) else (none)))))) = some r := H
 have A4 := Aside0.mk A40
 clear A40
 replace H := Option.bind_eq_some_iff.mp H
 obtain ⟨t302, A50, H⟩ := H
 replace H : ((lit_Tops.f k t302 (([(⟨false, y280⟩ : S25), (⟨true, y284⟩ : S25), (⟨false, y288⟩ : S25)] : List (S25)))).bind fun bt308 => ((quaerelaw7_words.f).bind fun t312 => ((lit_Weight.f k t312 false (([3, 1] : List Int))).bind fun bt318 => (if t295 = 3 then ((quaerelaw0_Num.f t296).bind fun t320 => (if t320 = 0 then (if t300 = 2 then ((quaerelaw0_Num.f t301).bind fun t321 => (if t321 = 0 then ((quaerelaw0_SameInts.f k bt308.1 (([2] : List Int))).bind fun t325 => (if t325 = true then ((quaerelaw0_Num.f bt308.2).bind fun t326 => (if t326 = 0 then ((quaerelaw0_Num.f bt318.2).bind fun t327 => (if t327 = 700 then ((quaerelaw7_words.f).bind fun t328 => ((lit_May.f k t328 false y280).bind fun t331 => (some t331))) else (none))) else (none))) else (none))) else (none))) else (none)) else (none))) else (none))))) = some r := H
 have A5 := Aside0.mk A50
 clear A50
 obtain ⟨y305, hy305⟩ : ∃ y_ : List (S25), y_ = (([(⟨false, y280⟩ : S25), (⟨true, y284⟩ : S25), (⟨false, y288⟩ : S25)] : List (S25))) := ⟨_, rfl⟩
 replace H : ((lit_Tops.f k t302 y305).bind fun bt308 => ((quaerelaw7_words.f).bind fun t312 => ((lit_Weight.f k t312 false (([3, 1] : List Int))).bind fun bt318 => (if t295 = 3 then ((quaerelaw0_Num.f t296).bind fun t320 => (if t320 = 0 then (if t300 = 2 then ((quaerelaw0_Num.f t301).bind fun t321 => (if t321 = 0 then ((quaerelaw0_SameInts.f k bt308.1 (([2] : List Int))).bind fun t325 => (if t325 = true then ((quaerelaw0_Num.f bt308.2).bind fun t326 => (if t326 = 0 then ((quaerelaw0_Num.f bt318.2).bind fun t327 => (if t327 = 700 then ((quaerelaw7_words.f).bind fun t328 => ((lit_May.f k t328 false y280).bind fun t331 => (some t331))) else (none))) else (none))) else (none))) else (none))) else (none)) else (none))) else (none))))) = some r := by first | (rw [hy305]; with_reducible exact H) | (have H2_ := (Option.bind_some _ _).symm.trans H; rw [hy305]; with_reducible exact H2_) | (have H2_ := (Option.bind_some _ _).symm.trans H; with_reducible exact H2_) | with_reducible exact H | (rw [hy305]; exact H) | exact H
 have Ny305 := Aside0.mk hy305
 clear hy305
 replace H := Option.bind_eq_some_iff.mp H
 obtain ⟨⟨t308, t309⟩, A60, H⟩ := H
 replace H : ((quaerelaw7_words.f).bind fun t312 => ((lit_Weight.f k t312 false (([3, 1] : List Int))).bind fun bt318 => (if t295 = 3 then ((quaerelaw0_Num.f t296).bind fun t320 => (if t320 = 0 then (if t300 = 2 then ((quaerelaw0_Num.f t301).bind fun t321 => (if t321 = 0 then ((quaerelaw0_SameInts.f k t308 (([2] : List Int))).bind fun t325 => (if t325 = true then ((quaerelaw0_Num.f t309).bind fun t326 => (if t326 = 0 then ((quaerelaw0_Num.f bt318.2).bind fun t327 => (if t327 = 700 then ((quaerelaw7_words.f).bind fun t328 => ((lit_May.f k t328 false y280).bind fun t331 => (some t331))) else (none))) else (none))) else (none))) else (none))) else (none)) else (none))) else (none)))) = some r := H
 have A6 := Aside0.mk A60
 clear A60
 replace H := Option.bind_eq_some_iff.mp H
 obtain ⟨t312, A70, H⟩ := H
 replace H : ((lit_Weight.f k t312 false (([3, 1] : List Int))).bind fun bt318 => (if t295 = 3 then ((quaerelaw0_Num.f t296).bind fun t320 => (if t320 = 0 then (if t300 = 2 then ((quaerelaw0_Num.f t301).bind fun t321 => (if t321 = 0 then ((quaerelaw0_SameInts.f k t308 (([2] : List Int))).bind fun t325 => (if t325 = true then ((quaerelaw0_Num.f t309).bind fun t326 => (if t326 = 0 then ((quaerelaw0_Num.f bt318.2).bind fun t327 => (if t327 = 700 then ((quaerelaw7_words.f).bind fun t328 => ((lit_May.f k t328 false y280).bind fun t331 => (some t331))) else (none))) else (none))) else (none))) else (none))) else (none)) else (none))) else (none))) = some r := H
 have A7 := Aside0.mk A70
 clear A70
 obtain ⟨y315, hy315⟩ : ∃ y_ : List Int, y_ = (([3, 1] : List Int)) := ⟨_, rfl⟩
 replace H : ((lit_Weight.f k t312 false y315).bind fun bt318 => (if t295 = 3 then ((quaerelaw0_Num.f t296).bind fun t320 => (if t320 = 0 then (if t300 = 2 then ((quaerelaw0_Num.f t301).bind fun t321 => (if t321 = 0 then ((quaerelaw0_SameInts.f k t308 (([2] : List Int))).bind fun t325 => (if t325 = true then ((quaerelaw0_Num.f t309).bind fun t326 => (if t326 = 0 then ((quaerelaw0_Num.f bt318.2).bind fun t327 => (if t327 = 700 then ((quaerelaw7_words.f).bind fun t328 => ((lit_May.f k t328 false y280).bind fun t331 => (some t331))) else (none))) else (none))) else (none))) else (none))) else (none)) else (none))) else (none))) = some r := by first | (rw [hy315]; with_reducible exact H) | (have H2_ := (Option.bind_some _ _).symm.trans H; rw [hy315]; with_reducible exact H2_) | (have H2_ := (Option.bind_some _ _).symm.trans H; with_reducible exact H2_) | with_reducible exact H | (rw [hy315]; exact H) | exact H
 have Ny315 := Aside0.mk hy315
 clear hy315
 replace H := Option.bind_eq_some_iff.mp H
 obtain ⟨⟨t318, t319⟩, A80, H⟩ := H
 replace H : (if t295 = 3 then ((quaerelaw0_Num.f t296).bind fun t320 => (if t320 = 0 then (if t300 = 2 then ((quaerelaw0_Num.f t301).bind fun t321 => (if t321 = 0 then ((quaerelaw0_SameInts.f k t308 (([2] : List Int))).bind fun t325 => (if t325 = true then ((quaerelaw0_Num.f t309).bind fun t326 => (if t326 = 0 then ((quaerelaw0_Num.f t319).bind fun t327 => (if t327 = 700 then ((quaerelaw7_words.f).bind fun t328 => ((lit_May.f k t328 false y280).bind fun t331 => (some t331))) else (none))) else (none))) else (none))) else (none))) else (none)) else (none))) else (none)) = some r := H
 have A8 := Aside0.mk A80
 clear A80
 by_cases c9 : t295 = 3
 ·rw [if_pos c9] at H
  have c9b0 : (t295 == 3) = true := beq_iff_eq.mpr c9
  have c9b1 : (t295 != 3) = false := bne_eq_false_iff_eq.mpr c9
  clear c9
  replace H := Option.bind_eq_some_iff.mp H
  obtain ⟨t320, A100, H⟩ := H
  replace H : (if t320 = 0 then (if t300 = 2 then ((quaerelaw0_Num.f t301).bind fun t321 => (if t321 = 0 then ((quaerelaw0_SameInts.f k t308 (([2] : List Int))).bind fun t325 => (if t325 = true then ((quaerelaw0_Num.f t309).bind fun t326 => (if t326 = 0 then ((quaerelaw0_Num.f t319).bind fun t327 => (if t327 = 700 then ((quaerelaw7_words.f).bind fun t328 => ((lit_May.f k t328 false y280).bind fun t331 => (some t331))) else (none))) else (none))) else (none))) else (none))) else (none)) else (none)) = some r := H
  have A10 := Aside0.mk A100
  clear A100
  by_cases c11 : t320 = 0
  ·rw [if_pos c11] at H
   have c11b0 : (t320 == 0) = true := beq_iff_eq.mpr c11
   have c11b1 : (t320 != 0) = false := bne_eq_false_iff_eq.mpr c11
   clear c11
   by_cases c12 : t300 = 2
   ·rw [if_pos c12] at H
    have c12b0 : (t300 == 2) = true := beq_iff_eq.mpr c12
    have c12b1 : (t300 != 2) = false := bne_eq_false_iff_eq.mpr c12
    clear c12
    replace H := Option.bind_eq_some_iff.mp H
    obtain ⟨t321, A130, H⟩ := H
    replace H : (if t321 = 0 then ((quaerelaw0_SameInts.f k t308 (([2] : List Int))).bind fun t325 => (if t325 = true then ((quaerelaw0_Num.f t309).bind fun t326 => (if t326 = 0 then ((quaerelaw0_Num.f t319).bind fun t327 => (if t327 = 700 then ((quaerelaw7_words.f).bind fun t328 => ((lit_May.f k t328 false y280).bind fun t331 => (some t331))) else (none))) else (none))) else (none))) else (none)) = some r := H
    have A13 := Aside0.mk A130
    clear A130
    by_cases c14 : t321 = 0
    ·rw [if_pos c14] at H
     have c14b0 : (t321 == 0) = true := beq_iff_eq.mpr c14
     have c14b1 : (t321 != 0) = false := bne_eq_false_iff_eq.mpr c14
     clear c14
     obtain ⟨y322, hy322⟩ : ∃ y_ : List Int, y_ = (([2] : List Int)) := ⟨_, rfl⟩
     replace H : ((quaerelaw0_SameInts.f k t308 y322).bind fun t325 => (if t325 = true then ((quaerelaw0_Num.f t309).bind fun t326 => (if t326 = 0 then ((quaerelaw0_Num.f t319).bind fun t327 => (if t327 = 700 then ((quaerelaw7_words.f).bind fun t328 => ((lit_May.f k t328 false y280).bind fun t331 => (some t331))) else (none))) else (none))) else (none))) = some r := by first | (rw [hy322]; with_reducible exact H) | (have H2_ := (Option.bind_some _ _).symm.trans H; rw [hy322]; with_reducible exact H2_) | (have H2_ := (Option.bind_some _ _).symm.trans H; with_reducible exact H2_) | with_reducible exact H | (rw [hy322]; exact H) | exact H
     have Ny322 := Aside0.mk hy322
     clear hy322
     replace H := Option.bind_eq_some_iff.mp H
     obtain ⟨t325, A150, H⟩ := H
     replace H : (if t325 = true then ((quaerelaw0_Num.f t309).bind fun t326 => (if t326 = 0 then ((quaerelaw0_Num.f t319).bind fun t327 => (if t327 = 700 then ((quaerelaw7_words.f).bind fun t328 => ((lit_May.f k t328 false y280).bind fun t331 => (some t331))) else (none))) else (none))) else (none)) = some r := H
     have A15 := Aside0.mk A150
     clear A150
     by_cases c16 : t325 = true
     ·subst c16
      have H1 : ((quaerelaw0_Num.f t309).bind fun t326 => (if t326 = 0 then ((quaerelaw0_Num.f t319).bind fun t327 => (if t327 = 700 then ((quaerelaw7_words.f).bind fun t328 => ((lit_May.f k t328 false y280).bind fun t331 => (some t331))) else (none))) else (none))) = some r := by rw [if_pos rfl] at H; exact H
      clear H
      have H := H1
      clear H1
      replace H := Option.bind_eq_some_iff.mp H
      obtain ⟨t326, A170, H⟩ := H
      replace H : (if t326 = 0 then ((quaerelaw0_Num.f t319).bind fun t327 => (if t327 = 700 then ((quaerelaw7_words.f).bind fun t328 => ((lit_May.f k t328 false y280).bind fun t331 => (some t331))) else (none))) else (none)) = some r := H
      have A17 := Aside0.mk A170
      clear A170
      by_cases c18 : t326 = 0
      ·rw [if_pos c18] at H
       have c18b0 : (t326 == 0) = true := beq_iff_eq.mpr c18
       have c18b1 : (t326 != 0) = false := bne_eq_false_iff_eq.mpr c18
       clear c18
       replace H := Option.bind_eq_some_iff.mp H
       obtain ⟨t327, A190, H⟩ := H
       replace H : (if t327 = 700 then ((quaerelaw7_words.f).bind fun t328 => ((lit_May.f k t328 false y280).bind fun t331 => (some t331))) else (none)) = some r := H
       have A19 := Aside0.mk A190
       clear A190
       by_cases c20 : t327 = 700
       ·rw [if_pos c20] at H
        have c20b0 : (t327 == 700) = true := beq_iff_eq.mpr c20
        have c20b1 : (t327 != 700) = false := bne_eq_false_iff_eq.mpr c20
        clear c20
        replace H := Option.bind_eq_some_iff.mp H
        obtain ⟨t328, A210, H⟩ := H
        replace H : ((lit_May.f k t328 false y280).bind fun t331 => (some t331)) = some r := H
        have A21 := Aside0.mk A210
        clear A210
        replace H := Option.bind_eq_some_iff.mp H
        obtain ⟨t331, A220, H⟩ := H
        replace H : (some t331) = some r := H
        have A22 := Aside0.mk A220
        clear A220
        obtain rfl := Option.some.inj H
        go_enter Tryd.func18, Tryd.ntmps18
        try go_wp2_with (first | ((with_reducible refine gate_dst (N := 12) rfl ?_); (try (refine gate_guard (by rfl) ?_; dsimp only)); refine Kd.R_lit (Kd.int .i64) _ 3 ?hg (N := 12) ?hd (xs := ([5, (-1)] : List Int)) (inner := [.int .i64 5, .int .i64 (-1)]) (ok := fun _ => True) (okp := fun _ => True) ?hr ?hp (fun _ hk => hk) trivial (Below.refl _ _) (Nat.le_refl _) (by simp) ?_; (case hd => rfl); (case hg => rfl); (case hr => first | (go_simp; done) | (go_simp; rfl)); (case hp => exact (Reps.one (show Kd.M (Kd.int .i64) _ _ _ 5 [.int .i64 5] from rfl) (Reps.one (show Kd.M (Kd.int .i64) _ _ _ (-1) [.int .i64 (-1)] from rfl) (Reps.none _ _)))); intro v281 w23 ho24 hb hg_ hnew_; clear hg_ hnew_; (first | rw [← Ny280.out] at ho24 | (simp only [Int.reduceToNat] at ho24; rw [← Ny280.out] at ho24)); have n0_ := Aside0.mk (Kd.R_lower ho24 (below_size bB)); have n1_ := Aside0.mk (below_step bB hb); clear HB; have HO282 := n0_; have HB := n1_; clear n0_ n1_; clear hb ho24; obtain ⟨Ao25, co25, eo25⟩ := Kd.R_slice HO282.out; subst eo25) | ((with_reducible refine gate_dst (N := 1) rfl ?_); (try (refine gate_guard (by rfl) ?_; dsimp only)); refine box_event ?hg (N := 1) ?hd (cs := #[.bool false, .slice none 0 0]) (t := 25) ?hr ?_; (case hd => rfl); (case hg => rfl); (case hr => first | (go_simp; done) | (go_simp; rfl)); intro gb283 hg w26 hbox hb; have n0_ := Aside0.mk (Kd.R_below (rK HO282) hb); have n1_ := Aside0.mk (below_step bB hb); have n2_ := Aside0.mk (hbox); have n3_ := Aside0.mk ((by rw [hg]; exact (below_size bB) : w.heap.size ≤ gb283)); have n4_ := Aside0.mk ((by rw [hg]; exact (below_size bB) : w.heap.size ≤ gb283)); clear HO282; clear HB; have HO282 := n0_; have HB := n1_; have BK283 := n2_; have GW283 := n3_; have GE283 := n4_; clear n0_ n1_ n2_ n3_ n4_; clear hb hbox hg; have hcz27_0 : w26.cell? ⟨gb283, 0, none⟩ = some (.bool false) := (blk_cell BK283.out 0).trans rfl; have hcz27_1 : w26.cell? ⟨gb283, 1, none⟩ = some (.slice none 0 0) := (blk_cell BK283.out 1).trans rfl; have hfz27_0 := blk_frozen BK283.out 0; have hfz27_1 := blk_frozen BK283.out 1) | ((with_reducible refine gate_dst (N := 14) rfl ?_); (try (refine gate_guard (by rfl) ?_; dsimp only)); refine Kd.R_lit (Kd.int .i64) _ 3 ?hg (N := 14) ?hd (xs := ([5, (-1)] : List Int)) (inner := [.int .i64 5, .int .i64 (-1)]) (ok := fun _ => True) (okp := fun _ => True) ?hr ?hp (fun _ hk => hk) trivial (Below.refl _ _) (Nat.le_refl _) (by simp) ?_; (case hd => rfl); (case hg => rfl); (case hr => first | (go_simp; done) | (go_simp; rfl)); (case hp => exact (Reps.one (show Kd.M (Kd.int .i64) _ _ _ 5 [.int .i64 5] from rfl) (Reps.one (show Kd.M (Kd.int .i64) _ _ _ (-1) [.int .i64 (-1)] from rfl) (Reps.none _ _)))); intro v285 w28 ho29 hb hg_ hnew_; clear hg_ hnew_; (first | rw [← Ny284.out] at ho29 | (simp only [Int.reduceToNat] at ho29; rw [← Ny284.out] at ho29)); have n0_ := Aside0.mk (Kd.R_elder' (by (with_reducible repeat (first | apply Kd.R_alloc | apply Kd.R_drewN | apply Kd.R_drew)); exact (Kd.R_mono (Kd.R_far (p := ⟨gb283, 1, none⟩) (Kd.R_far (p := ⟨gb283, 0, none⟩) (Kd.R_types HO282.out BK283.out (by decide)) (fun _ hk => hk.2) (.bool false)) (fun _ hk => hk.2) (.slice Ao25 y280.length co25)) (fun _ h_ => h_.1))) (Kd.R_base ho29) hb); have n1_ := Aside0.mk (Kd.R_lower (Kd.R_new' ho29 (Kd.R_lt (by (with_reducible repeat (first | apply Kd.R_alloc | apply Kd.R_drewN | apply Kd.R_drew)); exact (Kd.R_mono (Kd.R_far (p := ⟨gb283, 1, none⟩) (Kd.R_far (p := ⟨gb283, 0, none⟩) (Kd.R_types HO282.out BK283.out (by decide)) (fun _ hk => hk.2) (.bool false)) (fun _ hk => hk.2) (.slice Ao25 y280.length co25)) (fun _ h_ => h_.1))))) (below_size bS)); have n2_ := Aside0.mk (blk_below (g := gb283) (o := .cells #[.bool false, .slice Ao25 y280.length co25] 25 (0, 0)) (by (with_reducible repeat (first | refine blk_drewN ?_ _ | refine blk_drew ?_ | refine blk_alloc ?_ _)); refine blk_put (cs := #[.bool false, .slice none 0 0]) ?_ 1 _ rfl; (with_reducible repeat (first | refine blk_drewN ?_ _ | refine blk_drew ?_ | refine blk_alloc ?_ _)); refine blk_put (cs := #[.bool false, .slice none 0 0]) ?_ 0 _ rfl; (with_reducible repeat (first | refine blk_drewN ?_ _ | refine blk_drew ?_ | refine blk_alloc ?_ _)); exact BK283.out) hb); have n3_ := Aside0.mk (below_step bS hb); clear HO282; clear BK283; clear HB; have HO282 := n0_; have HO286 := n1_; have BK283 := n2_; have HB := n3_; clear n0_ n1_ n2_ n3_; clear hb ho29; obtain ⟨Ao30, co30, eo30⟩ := Kd.R_slice HO286.out; subst eo30) | ((with_reducible refine gate_dst (N := 2) rfl ?_); (try (refine gate_guard (by rfl) ?_; dsimp only)); refine box_event ?hg (N := 2) ?hd (cs := #[.bool false, .slice none 0 0]) (t := 25) ?hr ?_; (case hd => rfl); (case hg => rfl); (case hr => first | (go_simp; done) | (go_simp; rfl)); intro gb287 hg w31 hbox hb; have n0_ := Aside0.mk (Kd.R_below (rK HO282) hb); have n1_ := Aside0.mk (Kd.R_below (rK HO286) hb); have n2_ := Aside0.mk (blk_below (g := gb283) (o := .cells #[.bool false, .slice Ao25 y280.length co25] 25 (0, 0)) (bK BK283) hb); have n3_ := Aside0.mk (below_step bS hb); have n4_ := Aside0.mk (hbox); have n5_ := Aside0.mk ((by rw [hg]; exact (below_size bS) : w.heap.size ≤ gb287)); have n6_ := Aside0.mk ((by rw [hg]; exact (below_size bS) : w.heap.size ≤ gb287)); have n7_ := Aside0.mk ((by rw [hg]; exact Nat.ne_of_lt (blk_lt (g := gb283) (o := .cells #[.bool false, .slice Ao25 y280.length co25] 25 (0, 0)) (bK BK283)) : gb283 ≠ gb287)); have n8_ := Aside0.mk ((by rw [hg]; exact Nat.ne_of_gt (blk_lt (g := gb283) (o := .cells #[.bool false, .slice Ao25 y280.length co25] 25 (0, 0)) (bK BK283)) : gb287 ≠ gb283)); clear HO282; clear HO286; clear BK283; clear HB; have HO282 := n0_; have HO286 := n1_; have BK283 := n2_; have HB := n3_; have BK287 := n4_; have GW287 := n5_; have GE287 := n6_; have NB283_287 := n7_; have NB287_283 := n8_; clear n0_ n1_ n2_ n3_ n4_ n5_ n6_ n7_ n8_; clear hb hbox hg; have hnb32 := NB287_283.out; have hnc32 := NB283_287.out; have hcz33_0 : w31.cell? ⟨gb287, 0, none⟩ = some (.bool false) := (blk_cell BK287.out 0).trans rfl; have hcz33_1 : w31.cell? ⟨gb287, 1, none⟩ = some (.slice none 0 0) := (blk_cell BK287.out 1).trans rfl; have hfz33_0 := blk_frozen BK287.out 0; have hfz33_1 := blk_frozen BK287.out 1) | ((with_reducible refine gate_dst (N := 16) rfl ?_); (try (refine gate_guard (by rfl) ?_; dsimp only)); refine Kd.R_lit (Kd.int .i64) _ 3 ?hg (N := 16) ?hd (xs := ([5, 3, (-1)] : List Int)) (inner := [.int .i64 5, .int .i64 3, .int .i64 (-1)]) (ok := fun _ => True) (okp := fun _ => True) ?hr ?hp (fun _ hk => hk) trivial (Below.refl _ _) (Nat.le_refl _) (by simp) ?_; (case hd => rfl); (case hg => rfl); (case hr => first | (go_simp; done) | (go_simp; rfl)); (case hp => exact (Reps.one (show Kd.M (Kd.int .i64) _ _ _ 5 [.int .i64 5] from rfl) (Reps.one (show Kd.M (Kd.int .i64) _ _ _ 3 [.int .i64 3] from rfl) (Reps.one (show Kd.M (Kd.int .i64) _ _ _ (-1) [.int .i64 (-1)] from rfl) (Reps.none _ _))))); intro v289 w34 ho35 hb hg_ hnew_; clear hg_ hnew_; (first | rw [← Ny288.out] at ho35 | (simp only [Int.reduceToNat] at ho35; rw [← Ny288.out] at ho35)); have n0_ := Aside0.mk (Kd.R_elder' (by (with_reducible repeat (first | apply Kd.R_alloc | apply Kd.R_drewN | apply Kd.R_drew)); exact (Kd.R_mono (Kd.R_far (p := ⟨gb287, 1, none⟩) (Kd.R_far (p := ⟨gb287, 0, none⟩) (Kd.R_types HO282.out BK287.out (by decide)) (fun _ hk => hk.2) (.bool true)) (fun _ hk => hk.2) (.slice Ao30 y284.length co30)) (fun _ h_ => h_.1))) (Kd.R_base ho35) hb); have n1_ := Aside0.mk (Kd.R_elder' (by (with_reducible repeat (first | apply Kd.R_alloc | apply Kd.R_drewN | apply Kd.R_drew)); exact (Kd.R_mono (Kd.R_far (p := ⟨gb287, 1, none⟩) (Kd.R_far (p := ⟨gb287, 0, none⟩) (Kd.R_types HO286.out BK287.out (by decide)) (fun _ hk => hk.2) (.bool true)) (fun _ hk => hk.2) (.slice Ao30 y284.length co30)) (fun _ h_ => h_.1))) (Kd.R_base ho35) hb); have n2_ := Aside0.mk (Kd.R_lower (Kd.R_new' (Kd.R_new' ho35 (Kd.R_lt (by (with_reducible repeat (first | apply Kd.R_alloc | apply Kd.R_drewN | apply Kd.R_drew)); exact (Kd.R_mono (Kd.R_far (p := ⟨gb287, 1, none⟩) (Kd.R_far (p := ⟨gb287, 0, none⟩) (Kd.R_types HO282.out BK287.out (by decide)) (fun _ hk => hk.2) (.bool true)) (fun _ hk => hk.2) (.slice Ao30 y284.length co30)) (fun _ h_ => h_.1))))) (Kd.R_lt (by (with_reducible repeat (first | apply Kd.R_alloc | apply Kd.R_drewN | apply Kd.R_drew)); exact (Kd.R_mono (Kd.R_far (p := ⟨gb287, 1, none⟩) (Kd.R_far (p := ⟨gb287, 0, none⟩) (Kd.R_types HO286.out BK287.out (by decide)) (fun _ hk => hk.2) (.bool true)) (fun _ hk => hk.2) (.slice Ao30 y284.length co30)) (fun _ h_ => h_.1))))) (below_size bS)); have n3_ := Aside0.mk (blk_below (g := gb283) (o := .cells #[.bool false, .slice Ao25 y280.length co25] 25 (0, 0)) (by (with_reducible repeat (first | refine blk_drewN ?_ _ | refine blk_drew ?_ | refine blk_alloc ?_ _)); refine blk_far ?_ NB283_287.out _; (with_reducible repeat (first | refine blk_drewN ?_ _ | refine blk_drew ?_ | refine blk_alloc ?_ _)); refine blk_far ?_ NB283_287.out _; (with_reducible repeat (first | refine blk_drewN ?_ _ | refine blk_drew ?_ | refine blk_alloc ?_ _)); exact BK283.out) hb); have n4_ := Aside0.mk (blk_below (g := gb287) (o := .cells #[.bool true, .slice Ao30 y284.length co30] 25 (0, 0)) (by (with_reducible repeat (first | refine blk_drewN ?_ _ | refine blk_drew ?_ | refine blk_alloc ?_ _)); refine blk_put (cs := #[.bool true, .slice none 0 0]) ?_ 1 _ rfl; (with_reducible repeat (first | refine blk_drewN ?_ _ | refine blk_drew ?_ | refine blk_alloc ?_ _)); refine blk_put (cs := #[.bool false, .slice none 0 0]) ?_ 0 _ rfl; (with_reducible repeat (first | refine blk_drewN ?_ _ | refine blk_drew ?_ | refine blk_alloc ?_ _)); exact BK287.out) hb); have n5_ := Aside0.mk (below_step bS hb); clear HO282; clear HO286; clear BK283; clear BK287; clear HB; have HO282 := n0_; have HO286 := n1_; have HO290 := n2_; have BK283 := n3_; have BK287 := n4_; have HB := n5_; clear n0_ n1_ n2_ n3_ n4_ n5_; clear hb ho35; obtain ⟨Ao36, co36, eo36⟩ := Kd.R_slice HO290.out; subst eo36) | ((with_reducible refine gate_dst (N := 3) rfl ?_); (try (refine gate_guard (by rfl) ?_; dsimp only)); refine box_event ?hg (N := 3) ?hd (cs := #[.bool false, .slice none 0 0]) (t := 25) ?hr ?_; (case hd => rfl); (case hg => rfl); (case hr => first | (go_simp; done) | (go_simp; rfl)); intro gb291 hg w37 hbox hb; have n0_ := Aside0.mk (Kd.R_below (rK HO282) hb); have n1_ := Aside0.mk (Kd.R_below (rK HO286) hb); have n2_ := Aside0.mk (Kd.R_below (rK HO290) hb); have n3_ := Aside0.mk (blk_below (g := gb283) (o := .cells #[.bool false, .slice Ao25 y280.length co25] 25 (0, 0)) (bK BK283) hb); have n4_ := Aside0.mk (blk_below (g := gb287) (o := .cells #[.bool true, .slice Ao30 y284.length co30] 25 (0, 0)) (bK BK287) hb); have n5_ := Aside0.mk (below_step bS hb); have n6_ := Aside0.mk (hbox); have n7_ := Aside0.mk ((by rw [hg]; exact (below_size bS) : w.heap.size ≤ gb291)); have n8_ := Aside0.mk ((by rw [hg]; exact (below_size bS) : w.heap.size ≤ gb291)); have n9_ := Aside0.mk ((by rw [hg]; exact Nat.ne_of_lt (blk_lt (g := gb283) (o := .cells #[.bool false, .slice Ao25 y280.length co25] 25 (0, 0)) (bK BK283)) : gb283 ≠ gb291)); have n10_ := Aside0.mk ((by rw [hg]; exact Nat.ne_of_gt (blk_lt (g := gb283) (o := .cells #[.bool false, .slice Ao25 y280.length co25] 25 (0, 0)) (bK BK283)) : gb291 ≠ gb283)); have n11_ := Aside0.mk ((by rw [hg]; exact Nat.ne_of_lt (blk_lt (g := gb287) (o := .cells #[.bool true, .slice Ao30 y284.length co30] 25 (0, 0)) (bK BK287)) : gb287 ≠ gb291)); have n12_ := Aside0.mk ((by rw [hg]; exact Nat.ne_of_gt (blk_lt (g := gb287) (o := .cells #[.bool true, .slice Ao30 y284.length co30] 25 (0, 0)) (bK BK287)) : gb291 ≠ gb287)); clear HO282; clear HO286; clear HO290; clear BK283; clear BK287; clear HB; have HO282 := n0_; have HO286 := n1_; have HO290 := n2_; have BK283 := n3_; have BK287 := n4_; have HB := n5_; have BK291 := n6_; have GW291 := n7_; have GE291 := n8_; have NB283_291 := n9_; have NB291_283 := n10_; have NB287_291 := n11_; have NB291_287 := n12_; clear n0_ n1_ n2_ n3_ n4_ n5_ n6_ n7_ n8_ n9_ n10_ n11_ n12_; clear hb hbox hg; have hnb38 := NB291_283.out; have hnc38 := NB283_291.out; have hnb39 := NB291_287.out; have hnc39 := NB287_291.out; have hcz40_0 : w37.cell? ⟨gb291, 0, none⟩ = some (.bool false) := (blk_cell BK291.out 0).trans rfl; have hcz40_1 : w37.cell? ⟨gb291, 1, none⟩ = some (.slice none 0 0) := (blk_cell BK291.out 1).trans rfl; have hfz40_0 := blk_frozen BK291.out 0; have hfz40_1 := blk_frozen BK291.out 1))
        have n0_ : Aside0 (Kd.R (Kd.int .i64) 3 ((w37.setCell ⟨gb291, 0, none⟩ (.bool false)).setCell ⟨gb291, 1, none⟩ (.slice Ao36 y288.length co36)) w.heap.size (fun k_ => some k_ ≠ (.slice Ao30 y284.length co30 : Value).ownBlock ∧ some k_ ≠ (.slice Ao36 y288.length co36 : Value).ownBlock) (.slice Ao25 y280.length co25) y280) := ⟨by (with_reducible repeat (first | apply Kd.R_alloc | apply Kd.R_drewN | apply Kd.R_drew)); exact Kd.R_mono (Kd.R_far (p := ⟨gb291, 1, none⟩) (Kd.R_far (p := ⟨gb291, 0, none⟩) (Kd.R_types HO282.out BK291.out (by decide)) (fun _ hk => hk.2) (.bool false)) (fun _ hk => hk.2) (.slice Ao36 y288.length co36)) (fun _ hk => ⟨hk.1.1.2, hk.1.2⟩)⟩
        have n1_ : Aside0 (Kd.R (Kd.int .i64) 3 ((w37.setCell ⟨gb291, 0, none⟩ (.bool false)).setCell ⟨gb291, 1, none⟩ (.slice Ao36 y288.length co36)) w.heap.size (fun k_ => some k_ ≠ (.slice Ao25 y280.length co25 : Value).ownBlock ∧ some k_ ≠ (.slice Ao36 y288.length co36 : Value).ownBlock) (.slice Ao30 y284.length co30) y284) := ⟨by (with_reducible repeat (first | apply Kd.R_alloc | apply Kd.R_drewN | apply Kd.R_drew)); exact Kd.R_mono (Kd.R_far (p := ⟨gb291, 1, none⟩) (Kd.R_far (p := ⟨gb291, 0, none⟩) (Kd.R_types HO286.out BK291.out (by decide)) (fun _ hk => hk.2) (.bool false)) (fun _ hk => hk.2) (.slice Ao36 y288.length co36)) (fun _ hk => ⟨hk.1.1.2, hk.1.2⟩)⟩
        have n2_ : Aside0 (Kd.R (Kd.int .i64) 3 ((w37.setCell ⟨gb291, 0, none⟩ (.bool false)).setCell ⟨gb291, 1, none⟩ (.slice Ao36 y288.length co36)) w.heap.size (fun k_ => some k_ ≠ (.slice Ao25 y280.length co25 : Value).ownBlock ∧ some k_ ≠ (.slice Ao30 y284.length co30 : Value).ownBlock) (.slice Ao36 y288.length co36) y288) := ⟨by (with_reducible repeat (first | apply Kd.R_alloc | apply Kd.R_drewN | apply Kd.R_drew)); exact Kd.R_mono (Kd.R_far (p := ⟨gb291, 1, none⟩) (Kd.R_far (p := ⟨gb291, 0, none⟩) (Kd.R_types HO290.out BK291.out (by decide)) (fun _ hk => hk.2) (.bool false)) (fun _ hk => hk.2) (.slice Ao36 y288.length co36)) (fun _ hk => ⟨hk.1.1.2, hk.1.2⟩)⟩
        have n3_ : Aside0 (((w37.setCell ⟨gb291, 0, none⟩ (.bool false)).setCell ⟨gb291, 1, none⟩ (.slice Ao36 y288.length co36)).heap[gb283]? = some (.cells #[.bool false, .slice Ao25 y280.length co25] 25 (0, 0))) := ⟨by (with_reducible repeat (first | refine blk_drewN ?_ _ | refine blk_drew ?_ | refine blk_alloc ?_ _)); refine blk_far ?_ NB283_291.out _; (with_reducible repeat (first | refine blk_drewN ?_ _ | refine blk_drew ?_ | refine blk_alloc ?_ _)); refine blk_far ?_ NB283_291.out _; (with_reducible repeat (first | refine blk_drewN ?_ _ | refine blk_drew ?_ | refine blk_alloc ?_ _)); exact BK283.out⟩
        have n4_ : Aside0 (((w37.setCell ⟨gb291, 0, none⟩ (.bool false)).setCell ⟨gb291, 1, none⟩ (.slice Ao36 y288.length co36)).heap[gb287]? = some (.cells #[.bool true, .slice Ao30 y284.length co30] 25 (0, 0))) := ⟨by (with_reducible repeat (first | refine blk_drewN ?_ _ | refine blk_drew ?_ | refine blk_alloc ?_ _)); refine blk_far ?_ NB287_291.out _; (with_reducible repeat (first | refine blk_drewN ?_ _ | refine blk_drew ?_ | refine blk_alloc ?_ _)); refine blk_far ?_ NB287_291.out _; (with_reducible repeat (first | refine blk_drewN ?_ _ | refine blk_drew ?_ | refine blk_alloc ?_ _)); exact BK287.out⟩
        have n5_ : Aside0 (((w37.setCell ⟨gb291, 0, none⟩ (.bool false)).setCell ⟨gb291, 1, none⟩ (.slice Ao36 y288.length co36)).heap[gb291]? = some (.cells #[.bool false, .slice Ao36 y288.length co36] 25 (0, 0))) := ⟨by (with_reducible repeat (first | refine blk_drewN ?_ _ | refine blk_drew ?_ | refine blk_alloc ?_ _)); refine blk_put (cs := #[.bool false, .slice none 0 0]) ?_ 1 _ rfl; (with_reducible repeat (first | refine blk_drewN ?_ _ | refine blk_drew ?_ | refine blk_alloc ?_ _)); refine blk_put (cs := #[.bool false, .slice none 0 0]) ?_ 0 _ rfl; (with_reducible repeat (first | refine blk_drewN ?_ _ | refine blk_drew ?_ | refine blk_alloc ?_ _)); exact BK291.out⟩
        have n6_ : Aside0 (Below w.heap.size w ((w37.setCell ⟨gb291, 0, none⟩ (.bool false)).setCell ⟨gb291, 1, none⟩ (.slice Ao36 y288.length co36))) := ⟨bS⟩
        (try clear HO282)
        (try clear HO286)
        (try clear HO290)
        (try clear BK283)
        (try clear BK287)
        (try clear BK291)
        (try clear HB)
        generalize ((w37.setCell ⟨gb291, 0, none⟩ (.bool false)).setCell ⟨gb291, 1, none⟩ (.slice Ao36 y288.length co36)) = w41 at n0_ n1_ n2_ n3_ n4_ n5_ n6_ ⊢
        have HO282 := n0_
        have HO286 := n1_
        have HO290 := n2_
        have BK283 := n3_
        have BK287 := n4_
        have BK291 := n5_
        have HB := n6_
        clear n0_ n1_ n2_ n3_ n4_ n5_ n6_
        have n0_ := Aside0.mk (Kd.R_drew HO282.out)
        have n1_ := Aside0.mk (Kd.R_drew HO286.out)
        have n2_ := Aside0.mk (Kd.R_drew HO290.out)
        have n3_ := Aside0.mk (blk_drew BK283.out)
        have n4_ := Aside0.mk (blk_drew BK287.out)
        have n5_ := Aside0.mk (blk_drew BK291.out)
        have n6_ := Aside0.mk (below_drew1 HB.out)
        clear HO282 HO286 HO290 BK283 BK287 BK291 HB
        have HO282 := n0_
        have HO286 := n1_
        have HO290 := n2_
        have BK283 := n3_
        have BK287 := n4_
        have BK291 := n5_
        have HB := n6_
        clear n0_ n1_ n2_ n3_ n4_ n5_ n6_
        refine start_ (n := 8) (S := fun w' => w'.cell? ⟨gb291, 0, none⟩ = some (.bool false) ∧ w'.cell? ⟨gb291, 1, none⟩ = some (.slice Ao36 y288.length co36)) (ds := []) #[false, false, false, false, false, false, false, false] (by kernel_rfl) rfl rfl ⟨(blk_cell BK291.out 0).trans rfl, (blk_cell BK291.out 1).trans rfl⟩ (fun hHeld => ?_); refine with_tabW quaerelaw7_awake.tab4 quaerelaw7_awake.bits4 (fun HT_ HW_ => ?_)
        generalize w41.drew = w42 at HO282 HO286 HO290 BK283 BK287 BK291 HB hHeld ⊢
        refine take_ (i := 1) (N := some 20) (v := ?_) (a' := ?_) #[false, true, false, false, false, false, false, false] rfl rfl (take_ofW HT_.out HW_.out (by kernel_rfl)) (fun _ _ _ h => h) (Or.inl ⟨by rfl, ?_⟩) hHeld ?_ ?_
        rotate_left
        ·rintro w' ⟨s0, s1⟩
         go_simp
         with_reducible rfl
        rotate_left
        ·simp only [Act.put, List.setIfInBounds_toArray, List.set_cons_zero, List.set_cons_succ, i64_w, i32_w]
         rfl
        refine one_ (i := 0) (N := some 19) #[true, true, false, false, false, false, false, false] rfl rfl (one_of HT_.out (by kernel_rfl)) (by decide) (fun K hK => ?_)
        refine goes_ Tryd.func30 (by kernel_rfl) rfl #[] (by rfl) rfl rfl mA ?_
        with_reducible refine (quaerelaw7_words.calls  t292 _ A1.out).mono ?_
        rintro e w43 ⟨v293, rfl, ho0, hb⟩
        refine ⟨_, rfl, ?_⟩
        have n0_ := Aside0.mk (Kd.R_below (rK HO282) hb)
        have n1_ := Aside0.mk (Kd.R_below (rK HO286) hb)
        have n2_ := Aside0.mk (Kd.R_below (rK HO290) hb)
        have n3_ := Aside0.mk (Kd.R_lower ho0 (below_size bS))
        have n4_ := Aside0.mk (blk_below (g := gb283) (o := .cells #[.bool false, .slice Ao25 y280.length co25] 25 (0, 0)) (bK BK283) hb)
        have n5_ := Aside0.mk (blk_below (g := gb287) (o := .cells #[.bool true, .slice Ao30 y284.length co30] 25 (0, 0)) (bK BK287) hb)
        have n6_ := Aside0.mk (blk_below (g := gb291) (o := .cells #[.bool false, .slice Ao36 y288.length co36] 25 (0, 0)) (bK BK291) hb)
        have n7_ := Aside0.mk (below_step bS hb)
        clear HO282 HO286 HO290 BK283 BK287 BK291 HB
        have HO282 := n0_
        have HO286 := n1_
        have HO290 := n2_
        have HO294 := n3_
        have BK283 := n4_
        have BK287 := n5_
        have BK291 := n6_
        have HB := n7_
        clear n0_ n1_ n2_ n3_ n4_ n5_ n6_ n7_
        (try clear hb)
        (try clear hb2)
        (try clear hk)
        (try clear hi)
        (try clear ho0)
        obtain ⟨Ao44, co44, eo44⟩ := Kd.R_slice HO294.out
        (first | subst eo44 | (injection eo44 with f1_ f2_ f3_; have f4_ := f1_.symm; have f5_ := f3_.symm; clear f1_ f2_ f3_; subst f4_; subst f5_))
        refine hK.out _ _ ⟨(blk_cell BK291.out 0).trans rfl, (blk_cell BK291.out 1).trans rfl⟩ (fun hHeld => ?_)
        clear hK K
        refine norm_ (a' := ?_) ?_ ?_
        rotate_left
        ·show Act.put _ (some 19) _ = _
         simp only [Act.put, List.setIfInBounds_toArray, List.set_cons_zero, List.set_cons_succ, i64_w, i32_w]
         rfl
        refine one_ (i := 2) (N := some 21) #[true, true, true, false, false, false, false, false] rfl rfl (one_of HT_.out (by kernel_rfl)) (by decide) (fun K hK => ?_)
        refine goes_ Tryd.func10 (by kernel_rfl) rfl #[.slice Ao44 t292.length co44, .agg #[.bool false, .slice Ao36 y288.length co36]] (by rfl) rfl rfl mA ?_
        with_reducible refine (lit_Weight.calls (hG := gK) k _ _ t292 false _ _ y288 t295 t296 _ ?side1 ?side2 ?side3 ?side4 A2.out).mono ?_
        (case side1 => exact cK ((Kd.R_reads' HO294.out).2.2))
        (case side2 => exact (Kd.R_reads' HO294.out).2.1)
        (case side3 => exact cK ((Kd.R_reads' HO290.out).2.2))
        (case side4 => exact (Kd.R_reads' HO290.out).2.1)
        rintro e w45 ⟨rfl, hb⟩
        refine ⟨_, rfl, ?_⟩
        have n0_ := Aside0.mk (Kd.R_below (rK HO282) hb)
        have n1_ := Aside0.mk (Kd.R_below (rK HO286) hb)
        have n2_ := Aside0.mk (Kd.R_below (rK HO290) hb)
        have n3_ := Aside0.mk (Kd.R_below (rK HO294) hb)
        have n4_ := Aside0.mk (blk_below (g := gb283) (o := .cells #[.bool false, .slice Ao25 y280.length co25] 25 (0, 0)) (bK BK283) hb)
        have n5_ := Aside0.mk (blk_below (g := gb287) (o := .cells #[.bool true, .slice Ao30 y284.length co30] 25 (0, 0)) (bK BK287) hb)
        have n6_ := Aside0.mk (blk_below (g := gb291) (o := .cells #[.bool false, .slice Ao36 y288.length co36] 25 (0, 0)) (bK BK291) hb)
        have n7_ := Aside0.mk (below_step bS hb)
        clear HO282 HO286 HO290 HO294 BK283 BK287 BK291 HB
        have HO282 := n0_
        have HO286 := n1_
        have HO290 := n2_
        have HO294 := n3_
        have BK283 := n4_
        have BK287 := n5_
        have BK291 := n6_
        have HB := n7_
        clear n0_ n1_ n2_ n3_ n4_ n5_ n6_ n7_
        (try clear hb)
        (try clear hb2)
        (try clear hk)
        (try clear hi)
        refine hK.out _ _ ⟨(blk_cell BK291.out 0).trans rfl, (blk_cell BK291.out 1).trans rfl⟩ (fun hHeld => ?_)
        clear hK K
        refine norm_ (a' := ?_) ?_ ?_
        rotate_left
        ·show Act.put _ (some 21) _ = _
         simp only [Act.put, List.setIfInBounds_toArray, List.set_cons_zero, List.set_cons_succ, i64_w, i32_w]
         rfl
        refine pure_ (i := 3) (N := some 18) (v := ?_) (a' := ?_) #[true, true, true, true, false, false, false, false] rfl rfl (any_of HT_.out (by kernel_rfl)) (fun _ _ _ h => h) (Or.inl ⟨by rfl, ?_⟩) ?_ ?_
        rotate_left
        ·intro w'
         go_simp
         with_reducible rfl
        rotate_left
        ·simp only [Act.put, List.setIfInBounds_toArray, List.set_cons_zero, List.set_cons_succ, i64_w, i32_w]
         rfl
        refine pure_ (i := 4) (N := some 22) (v := ?_) (a' := ?_) #[true, true, true, true, true, false, false, false] rfl rfl (any_of HT_.out (by kernel_rfl)) (fun _ _ _ h => h) (Or.inl ⟨by rfl, ?_⟩) ?_ ?_
        rotate_left
        ·intro w'
         go_simp
         with_reducible rfl
        rotate_left
        ·simp only [Act.put, List.setIfInBounds_toArray, List.set_cons_zero, List.set_cons_succ, i64_w, i32_w]
         rfl
        refine pure_ (i := 5) (N := some 23) (v := ?_) (a' := ?_) #[true, true, true, true, true, true, false, false] rfl rfl (any_of HT_.out (by kernel_rfl)) (fun _ _ _ h => h) (Or.inl ⟨by rfl, ?_⟩) ?_ ?_
        rotate_left
        ·intro w'
         go_simp
         with_reducible rfl
        rotate_left
        ·simp only [Act.put, List.setIfInBounds_toArray, List.set_cons_zero, List.set_cons_succ, i64_w, i32_w]
         rfl
        refine pure_ (i := 6) (N := some 4) (v := ?_) (a' := ?_) #[true, true, true, true, true, true, true, false] rfl rfl (any_of HT_.out (by kernel_rfl)) (fun _ _ _ h => h) (Or.inl ⟨by rfl, ?_⟩) ?_ ?_
        rotate_left
        ·intro w'
         go_simp
         with_reducible rfl
        rotate_left
        ·simp only [Act.put, List.setIfInBounds_toArray, List.set_cons_zero, List.set_cons_succ, i64_w, i32_w]
         rfl
        refine pure_ (i := 7) (N := some 5) (v := ?_) (a' := ?_) #[true, true, true, true, true, true, true, true] rfl rfl (any_of HT_.out (by kernel_rfl)) (fun _ _ _ h => h) (Or.inl ⟨by rfl, ?_⟩) ?_ ?_
        rotate_left
        ·intro w'
         go_simp
         with_reducible rfl
        rotate_left
        ·simp only [Act.put, List.setIfInBounds_toArray, List.set_cons_zero, List.set_cons_succ, i64_w, i32_w]
         rfl
        refine done_ (done_of HT_.out (by kernel_rfl)) ?_
        try go_wp2
        have n0_ := Aside0.mk (Kd.R_drew HO282.out)
        have n1_ := Aside0.mk (Kd.R_drew HO286.out)
        have n2_ := Aside0.mk (Kd.R_drew HO290.out)
        have n3_ := Aside0.mk (Kd.R_drew HO294.out)
        have n4_ := Aside0.mk (blk_drew BK283.out)
        have n5_ := Aside0.mk (blk_drew BK287.out)
        have n6_ := Aside0.mk (blk_drew BK291.out)
        have n7_ := Aside0.mk (below_drew1 HB.out)
        clear HO282 HO286 HO290 HO294 BK283 BK287 BK291 HB
        have HO282 := n0_
        have HO286 := n1_
        have HO290 := n2_
        have HO294 := n3_
        have BK283 := n4_
        have BK287 := n5_
        have BK291 := n6_
        have HB := n7_
        clear n0_ n1_ n2_ n3_ n4_ n5_ n6_ n7_
        refine start_ (n := 9) (S := fun w' => w'.cell? ⟨gb287, 0, none⟩ = some (.bool true) ∧ w'.cell? ⟨gb287, 1, none⟩ = some (.slice Ao30 y284.length co30) ∧ w'.cell? ⟨gb283, 0, none⟩ = some (.bool false) ∧ w'.cell? ⟨gb283, 1, none⟩ = some (.slice Ao25 y280.length co25)) (ds := []) #[false, false, false, false, false, false, false, false, false] (by kernel_rfl) rfl rfl ⟨(blk_cell BK287.out 0).trans rfl, (blk_cell BK287.out 1).trans rfl, (blk_cell BK283.out 0).trans rfl, (blk_cell BK283.out 1).trans rfl⟩ (fun hHeld => ?_); refine with_tabW quaerelaw7_awake.tab5 quaerelaw7_awake.bits5 (fun HT_ HW_ => ?_)
        generalize w45.drew = w46 at HO282 HO286 HO290 HO294 BK283 BK287 BK291 HB hHeld ⊢
        refine take_ (i := 1) (N := some 26) (v := ?_) (a' := ?_) #[false, true, false, false, false, false, false, false, false] rfl rfl (take_ofW HT_.out HW_.out (by kernel_rfl)) (fun _ _ _ h => h) (Or.inl ⟨by rfl, ?_⟩) hHeld ?_ ?_
        rotate_left
        ·rintro w' ⟨s0, s1, s2, s3⟩
         go_simp
         with_reducible rfl
        rotate_left
        ·simp only [Act.put, List.setIfInBounds_toArray, List.set_cons_zero, List.set_cons_succ, i64_w, i32_w]
         rfl
        refine take_ (i := 2) (N := some 27) (v := ?_) (a' := ?_) #[false, true, true, false, false, false, false, false, false] rfl rfl (take_ofW HT_.out HW_.out (by kernel_rfl)) (fun _ _ _ h => h) (Or.inl ⟨by rfl, ?_⟩) hHeld ?_ ?_
        rotate_left
        ·rintro w' ⟨s0, s1, s2, s3⟩
         go_simp
         with_reducible rfl
        rotate_left
        ·simp only [Act.put, List.setIfInBounds_toArray, List.set_cons_zero, List.set_cons_succ, i64_w, i32_w]
         rfl
        refine one_ (i := 0) (N := some 25) #[true, true, true, false, false, false, false, false, false] rfl rfl (one_of HT_.out (by kernel_rfl)) (by decide) (fun K hK => ?_)
        refine goes_ Tryd.func30 (by kernel_rfl) rfl #[] (by rfl) rfl rfl mA ?_
        with_reducible refine (quaerelaw7_words.calls  t297 _ A3.out).mono ?_
        rintro e w47 ⟨v298, rfl, ho0, hb⟩
        refine ⟨_, rfl, ?_⟩
        have n0_ := Aside0.mk (Kd.R_below (rK HO282) hb)
        have n1_ := Aside0.mk (Kd.R_below (rK HO286) hb)
        have n2_ := Aside0.mk (Kd.R_below (rK HO290) hb)
        have n3_ := Aside0.mk (Kd.R_elder' (rK HO294) (Kd.R_base ho0) hb)
        have n4_ := Aside0.mk (Kd.R_lower (Kd.R_new' ho0 (Kd.R_lt (rK HO294))) (below_size bS))
        have n5_ := Aside0.mk (blk_below (g := gb283) (o := .cells #[.bool false, .slice Ao25 y280.length co25] 25 (0, 0)) (bK BK283) hb)
        have n6_ := Aside0.mk (blk_below (g := gb287) (o := .cells #[.bool true, .slice Ao30 y284.length co30] 25 (0, 0)) (bK BK287) hb)
        have n7_ := Aside0.mk (blk_below (g := gb291) (o := .cells #[.bool false, .slice Ao36 y288.length co36] 25 (0, 0)) (bK BK291) hb)
        have n8_ := Aside0.mk (below_step bS hb)
        clear HO282 HO286 HO290 HO294 BK283 BK287 BK291 HB
        have HO282 := n0_
        have HO286 := n1_
        have HO290 := n2_
        have HO294 := n3_
        have HO299 := n4_
        have BK283 := n5_
        have BK287 := n6_
        have BK291 := n7_
        have HB := n8_
        clear n0_ n1_ n2_ n3_ n4_ n5_ n6_ n7_ n8_
        (try clear hb)
        (try clear hb2)
        (try clear hk)
        (try clear hi)
        (try clear ho0)
        obtain ⟨Ao48, co48, eo48⟩ := Kd.R_slice HO299.out
        (first | subst eo48 | (injection eo48 with f1_ f2_ f3_; have f4_ := f1_.symm; have f5_ := f3_.symm; clear f1_ f2_ f3_; subst f4_; subst f5_))
        refine hK.out _ _ ⟨(blk_cell BK287.out 0).trans rfl, (blk_cell BK287.out 1).trans rfl, (blk_cell BK283.out 0).trans rfl, (blk_cell BK283.out 1).trans rfl⟩ (fun hHeld => ?_)
        clear hK K
        refine norm_ (a' := ?_) ?_ ?_
        rotate_left
        ·show Act.put _ (some 25) _ = _
         simp only [Act.put, List.setIfInBounds_toArray, List.set_cons_zero, List.set_cons_succ, i64_w, i32_w]
         rfl
        refine one_ (i := 3) (N := some 28) #[true, true, true, true, false, false, false, false, false] rfl rfl (one_of HT_.out (by kernel_rfl)) (by decide) (fun K hK => ?_)
        refine goes_ Tryd.func12 (by kernel_rfl) rfl #[.slice Ao48 t297.length co48, .agg #[.bool true, .slice Ao30 y284.length co30], .agg #[.bool false, .slice Ao25 y280.length co25]] (by rfl) rfl rfl mA ?_
        with_reducible refine (lit_Compare.calls (hG := gK) k _ _ t297 true _ _ y284 false _ _ y280 t300 t301 _ ?side1 ?side2 ?side3 ?side4 ?side5 ?side6 A4.out).mono ?_
        (case side1 => exact cK ((Kd.R_reads' HO299.out).2.2))
        (case side2 => exact (Kd.R_reads' HO299.out).2.1)
        (case side3 => exact cK ((Kd.R_reads' HO286.out).2.2))
        (case side4 => exact (Kd.R_reads' HO286.out).2.1)
        (case side5 => exact cK ((Kd.R_reads' HO282.out).2.2))
        (case side6 => exact (Kd.R_reads' HO282.out).2.1)
        rintro e w49 ⟨rfl, hb⟩
        refine ⟨_, rfl, ?_⟩
        have n0_ := Aside0.mk (Kd.R_below (rK HO282) hb)
        have n1_ := Aside0.mk (Kd.R_below (rK HO286) hb)
        have n2_ := Aside0.mk (Kd.R_below (rK HO290) hb)
        have n3_ := Aside0.mk (Kd.R_below (rK HO294) hb)
        have n4_ := Aside0.mk (Kd.R_below (rK HO299) hb)
        have n5_ := Aside0.mk (blk_below (g := gb283) (o := .cells #[.bool false, .slice Ao25 y280.length co25] 25 (0, 0)) (bK BK283) hb)
        have n6_ := Aside0.mk (blk_below (g := gb287) (o := .cells #[.bool true, .slice Ao30 y284.length co30] 25 (0, 0)) (bK BK287) hb)
        have n7_ := Aside0.mk (blk_below (g := gb291) (o := .cells #[.bool false, .slice Ao36 y288.length co36] 25 (0, 0)) (bK BK291) hb)
        have n8_ := Aside0.mk (below_step bS hb)
        clear HO282 HO286 HO290 HO294 HO299 BK283 BK287 BK291 HB
        have HO282 := n0_
        have HO286 := n1_
        have HO290 := n2_
        have HO294 := n3_
        have HO299 := n4_
        have BK283 := n5_
        have BK287 := n6_
        have BK291 := n7_
        have HB := n8_
        clear n0_ n1_ n2_ n3_ n4_ n5_ n6_ n7_ n8_
        (try clear hb)
        (try clear hb2)
        (try clear hk)
        (try clear hi)
        refine hK.out _ _ ⟨(blk_cell BK287.out 0).trans rfl, (blk_cell BK287.out 1).trans rfl, (blk_cell BK283.out 0).trans rfl, (blk_cell BK283.out 1).trans rfl⟩ (fun hHeld => ?_)
        clear hK K
        refine norm_ (a' := ?_) ?_ ?_
        rotate_left
        ·show Act.put _ (some 28) _ = _
         simp only [Act.put, List.setIfInBounds_toArray, List.set_cons_zero, List.set_cons_succ, i64_w, i32_w]
         rfl
        refine pure_ (i := 4) (N := some 24) (v := ?_) (a' := ?_) #[true, true, true, true, true, false, false, false, false] rfl rfl (any_of HT_.out (by kernel_rfl)) (fun _ _ _ h => h) (Or.inl ⟨by rfl, ?_⟩) ?_ ?_
        rotate_left
        ·intro w'
         go_simp
         with_reducible rfl
        rotate_left
        ·simp only [Act.put, List.setIfInBounds_toArray, List.set_cons_zero, List.set_cons_succ, i64_w, i32_w]
         rfl
        refine pure_ (i := 5) (N := some 29) (v := ?_) (a' := ?_) #[true, true, true, true, true, true, false, false, false] rfl rfl (any_of HT_.out (by kernel_rfl)) (fun _ _ _ h => h) (Or.inl ⟨by rfl, ?_⟩) ?_ ?_
        rotate_left
        ·intro w'
         go_simp
         with_reducible rfl
        rotate_left
        ·simp only [Act.put, List.setIfInBounds_toArray, List.set_cons_zero, List.set_cons_succ, i64_w, i32_w]
         rfl
        refine pure_ (i := 6) (N := some 30) (v := ?_) (a' := ?_) #[true, true, true, true, true, true, true, false, false] rfl rfl (any_of HT_.out (by kernel_rfl)) (fun _ _ _ h => h) (Or.inl ⟨by rfl, ?_⟩) ?_ ?_
        rotate_left
        ·intro w'
         go_simp
         with_reducible rfl
        rotate_left
        ·simp only [Act.put, List.setIfInBounds_toArray, List.set_cons_zero, List.set_cons_succ, i64_w, i32_w]
         rfl
        refine pure_ (i := 7) (N := some 6) (v := ?_) (a' := ?_) #[true, true, true, true, true, true, true, true, false] rfl rfl (any_of HT_.out (by kernel_rfl)) (fun _ _ _ h => h) (Or.inl ⟨by rfl, ?_⟩) ?_ ?_
        rotate_left
        ·intro w'
         go_simp
         with_reducible rfl
        rotate_left
        ·simp only [Act.put, List.setIfInBounds_toArray, List.set_cons_zero, List.set_cons_succ, i64_w, i32_w]
         rfl
        refine pure_ (i := 8) (N := some 7) (v := ?_) (a' := ?_) #[true, true, true, true, true, true, true, true, true] rfl rfl (any_of HT_.out (by kernel_rfl)) (fun _ _ _ h => h) (Or.inl ⟨by rfl, ?_⟩) ?_ ?_
        rotate_left
        ·intro w'
         go_simp
         with_reducible rfl
        rotate_left
        ·simp only [Act.put, List.setIfInBounds_toArray, List.set_cons_zero, List.set_cons_succ, i64_w, i32_w]
         rfl
        refine done_ (done_of HT_.out (by kernel_rfl)) ?_
        try go_wp2
        have n0_ := Aside0.mk (Kd.R_drew HO282.out)
        have n1_ := Aside0.mk (Kd.R_drew HO286.out)
        have n2_ := Aside0.mk (Kd.R_drew HO290.out)
        have n3_ := Aside0.mk (Kd.R_drew HO294.out)
        have n4_ := Aside0.mk (Kd.R_drew HO299.out)
        have n5_ := Aside0.mk (blk_drew BK283.out)
        have n6_ := Aside0.mk (blk_drew BK287.out)
        have n7_ := Aside0.mk (blk_drew BK291.out)
        have n8_ := Aside0.mk (below_drew1 HB.out)
        clear HO282 HO286 HO290 HO294 HO299 BK283 BK287 BK291 HB
        have HO282 := n0_
        have HO286 := n1_
        have HO290 := n2_
        have HO294 := n3_
        have HO299 := n4_
        have BK283 := n5_
        have BK287 := n6_
        have BK291 := n7_
        have HB := n8_
        clear n0_ n1_ n2_ n3_ n4_ n5_ n6_ n7_ n8_
        refine start_ (n := 11) (S := fun w' => True) (ds := []) #[false, false, false, false, false, false, false, false, false, false, false] (by kernel_rfl) rfl rfl trivial (fun hHeld => ?_); refine with_tabW quaerelaw7_awake.tab6 quaerelaw7_awake.bits6 (fun HT_ HW_ => ?_)
        generalize w49.drew = w50 at HO282 HO286 HO290 HO294 HO299 BK283 BK287 BK291 HB hHeld ⊢
        have hC282 : Kd.C (Kd.int .i64) w50 Ao25 y280.length y280 := (Kd.R_reads' HO282.out).2.2
        have hL282 := (Kd.R_reads' HO282.out).2.1
        refine inv_at [0, 1, 2, 3, 4, 5, 6, 7, 8, 9, 10] (fun a0_ b a w' => ∃ (v303 : Value) (v306 : Value) (v310 : Value) (m5_ : Value) (m6_ : Value) (m7_ : Value) (m9_ : Value), a = putSel a0_ b [(0, 32, v303), (1, 33, .agg #[.bool false, .slice Ao25 y280.length co25]), (2, 34, .agg #[.bool true, .slice Ao30 y284.length co30]), (3, 35, .agg #[.bool false, .slice Ao36 y288.length co36]), (4, 36, v306), (5, 37, m5_), (6, 31, m6_), (7, 38, m7_), (8, 39, .int .i64 t309), (9, 8, m9_), (10, 9, .int .i64 t309)] ∧ (b 4 = false → Kd.R (Kd.int .i64) 3 w' w.heap.size (fun k_ => some k_ ≠ (.slice Ao30 y284.length co30 : Value).ownBlock ∧ some k_ ≠ (.slice Ao36 y288.length co36 : Value).ownBlock) (.slice Ao25 y280.length co25) y280) ∧ (b 4 = false → Kd.R (Kd.int .i64) 3 w' w.heap.size (fun k_ => some k_ ≠ (.slice Ao25 y280.length co25 : Value).ownBlock ∧ some k_ ≠ (.slice Ao36 y288.length co36 : Value).ownBlock) (.slice Ao30 y284.length co30) y284) ∧ (b 4 = false → Kd.R (Kd.int .i64) 3 w' w.heap.size (fun k_ => some k_ ≠ (.slice Ao25 y280.length co25 : Value).ownBlock ∧ some k_ ≠ (.slice Ao30 y284.length co30 : Value).ownBlock) (.slice Ao36 y288.length co36) y288) ∧ (Kd.R k58 58 w' w.heap.size (fun k_ => True ∧ some k_ ≠ (.slice Ao48 t297.length co48 : Value).ownBlock) (.slice Ao44 t292.length co44) t292) ∧ (Kd.R k58 58 w' w.heap.size (fun k_ => True ∧ some k_ ≠ (.slice Ao44 t292.length co44 : Value).ownBlock) (.slice Ao48 t297.length co48) t297) ∧ (w'.heap[gb283]? = some (.cells #[.bool false, .slice Ao25 y280.length co25] 25 (0, 0))) ∧ (w'.heap[gb287]? = some (.cells #[.bool true, .slice Ao30 y284.length co30] 25 (0, 0))) ∧ (w'.heap[gb291]? = some (.cells #[.bool false, .slice Ao36 y288.length co36] 25 (0, 0))) ∧ (Below w.heap.size w w') ∧ (Below w50.heap.size w50 w') ∧ (b 0 = true → Kd.R k58 58 w' w.heap.size (fun k_ => some k_ ≠ (.slice Ao44 t292.length co44 : Value).ownBlock ∧ some k_ ≠ (.slice Ao48 t297.length co48 : Value).ownBlock) v303 t302) ∧ (b 4 = true → Kd.N k25 25 w' w.heap.size (fun k_ => some k_ ≠ (.slice Ao44 t292.length co44 : Value).ownBlock ∧ some k_ ≠ (.slice Ao48 t297.length co48 : Value).ownBlock ∧ k_ ≠ gb283 ∧ k_ ≠ gb287 ∧ k_ ≠ gb291) v306 y305) ∧ (b 5 = true → Kd.R (Kd.int .i64) 3 w' w.heap.size (fun _ => True) v310 t308) ∧ (b 5 = true → (m5_ : Value) = .tuple #[v310, .int .i64 t309]) ∧ (b 6 = true → (m6_ : Value) = .tuple #[v310, .int .i64 t309]) ∧ (b 7 = true → (m7_ : Value) = v310) ∧ (b 9 = true → (m9_ : Value) = v310)) HT_.out HW_.out (by kernel_rfl) (by kernel_rfl) ?_ ?_ ?_
        ·exact ⟨.bool false, .bool false, .bool false, .bool false, .bool false, .bool false, .bool false, by simp only [putSel, Bool.false_eq_true, if_false], fun _ => HO282.out, fun _ => HO286.out, fun _ => HO290.out, HO294.out, HO299.out, BK283.out, BK287.out, BK291.out, HB.out, Below.refl _ _, fun h_ => absurd h_ (by decide), fun h_ => absurd h_ (by decide), fun h_ => absurd h_ (by decide), fun h_ => absurd h_ (by decide), fun h_ => absurd h_ (by decide), fun h_ => absurd h_ (by decide), fun h_ => absurd h_ (by decide)⟩
        ·skip
         clear BK283 BK287 BK291 HB HO282 HO286 HO290 HO294 HO299
         refine steps_cons ?_ ?_
         ·rintro b a w' ⟨v303, v306, v310, m5_, m6_, m7_, m9_, ha, Q_HO282, Q_HO286, Q_HO290, Q_HO294, Q_HO299, Q_BK283, Q_BK287, Q_BK291, Q_HB, Q_HC, Q_HO304, Q_HO307, Q_HO311, Q_X5_, Q_X6_, Q_X7_, Q_X9_⟩ hb_ hon hoff
          refine ⟨_, rfl, fun K hK => ?_⟩
          replace ha := Aside0.mk ha
          have HO294 := Aside0.mk Q_HO294
          have HO299 := Aside0.mk Q_HO299
          have BK283 := Aside0.mk Q_BK283
          have BK287 := Aside0.mk Q_BK287
          have BK291 := Aside0.mk Q_BK291
          have HB := Aside0.mk Q_HB
          have HC := Aside0.mk Q_HC
          refine goes_ Tryd.func30 (by kernel_rfl) rfl #[] (by rfl) rfl rfl (by first | (simp only [List.map_toArray, List.map_cons, List.map_nil, Act.eval, Array.getD_eq_getD_getElem?, Option.getD_some]; done) | (simp only [List.map_toArray, List.map_cons, List.map_nil, Act.eval, Array.getD_eq_getD_getElem?, Option.getD_some]; rfl)) ?_
          with_reducible refine (quaerelaw7_words.calls  t302 _ A5.out).mono ?_
          rintro e w51 ⟨v303, rfl, ho0, hb⟩
          refine ⟨_, rfl, ?_⟩
          have n3_ := Aside0.mk (Kd.R_elder' (rK HO294) (Kd.R_base ho0) hb)
          have n4_ := Aside0.mk (Kd.R_elder' (rK HO299) (Kd.R_base ho0) hb)
          have n5_ := Aside0.mk (Kd.R_lower (Kd.R_new' (Kd.R_new' ho0 (Kd.R_lt (rK HO294))) (Kd.R_lt (rK HO299))) (below_size bS))
          have n6_ := Aside0.mk (blk_below (g := gb283) (o := .cells #[.bool false, .slice Ao25 y280.length co25] 25 (0, 0)) (bK BK283) hb)
          have n7_ := Aside0.mk (blk_below (g := gb287) (o := .cells #[.bool true, .slice Ao30 y284.length co30] 25 (0, 0)) (bK BK287) hb)
          have n8_ := Aside0.mk (blk_below (g := gb291) (o := .cells #[.bool false, .slice Ao36 y288.length co36] 25 (0, 0)) (bK BK291) hb)
          have n9_ := Aside0.mk (below_step bS hb)
          have mHC_ := Aside0.mk (below_step (by repeat (first | (with_reducible first | exact HC.out | apply below_alloc | apply pw_below_drewN | apply below_drew1 | refine below_set ?_ GE283.out | refine below_set ?_ GE287.out | refine below_set ?_ GE291.out) | exact HC.out)) hb)
          have z_HO282 := fun (h0_ : b 4 = false) => (show Kd.R (Kd.int .i64) 3 w51 w.heap.size (fun k_ => some k_ ≠ (.slice Ao30 y284.length co30 : Value).ownBlock ∧ some k_ ≠ (.slice Ao36 y288.length co36 : Value).ownBlock) (.slice Ao25 y280.length co25) y280 from by first | exact (Kd.R_below (by (with_reducible repeat (first | apply Kd.R_alloc | apply Kd.R_drewN | apply Kd.R_drew)); exact (Q_HO282 h0_)) hb) | exact Kd.R_mono (Kd.R_below (by (with_reducible repeat (first | apply Kd.R_alloc | apply Kd.R_drewN | apply Kd.R_drew)); exact (Q_HO282 h0_)) hb) (fun _ h_ => by first | trivial | exact h_ | exact h_.1))
          have z_HO286 := fun (h0_ : b 4 = false) => (show Kd.R (Kd.int .i64) 3 w51 w.heap.size (fun k_ => some k_ ≠ (.slice Ao25 y280.length co25 : Value).ownBlock ∧ some k_ ≠ (.slice Ao36 y288.length co36 : Value).ownBlock) (.slice Ao30 y284.length co30) y284 from by first | exact (Kd.R_below (by (with_reducible repeat (first | apply Kd.R_alloc | apply Kd.R_drewN | apply Kd.R_drew)); exact (Q_HO286 h0_)) hb) | exact Kd.R_mono (Kd.R_below (by (with_reducible repeat (first | apply Kd.R_alloc | apply Kd.R_drewN | apply Kd.R_drew)); exact (Q_HO286 h0_)) hb) (fun _ h_ => by first | trivial | exact h_ | exact h_.1))
          have z_HO290 := fun (h0_ : b 4 = false) => (show Kd.R (Kd.int .i64) 3 w51 w.heap.size (fun k_ => some k_ ≠ (.slice Ao25 y280.length co25 : Value).ownBlock ∧ some k_ ≠ (.slice Ao30 y284.length co30 : Value).ownBlock) (.slice Ao36 y288.length co36) y288 from by first | exact (Kd.R_below (by (with_reducible repeat (first | apply Kd.R_alloc | apply Kd.R_drewN | apply Kd.R_drew)); exact (Q_HO290 h0_)) hb) | exact Kd.R_mono (Kd.R_below (by (with_reducible repeat (first | apply Kd.R_alloc | apply Kd.R_drewN | apply Kd.R_drew)); exact (Q_HO290 h0_)) hb) (fun _ h_ => by first | trivial | exact h_ | exact h_.1))
          have z_HO307 := fun (h0_ : b 4 = true) => (show Kd.N k25 25 w51 w.heap.size (fun k_ => some k_ ≠ (.slice Ao44 t292.length co44 : Value).ownBlock ∧ some k_ ≠ (.slice Ao48 t297.length co48 : Value).ownBlock ∧ k_ ≠ gb283 ∧ k_ ≠ gb287 ∧ k_ ≠ gb291) v306 y305 from by first | exact (Kd.N_elder' (by (with_reducible repeat (first | apply Kd.N_alloc | apply Kd.N_drewN | apply Kd.N_drew)); exact (Q_HO307 h0_)) (Kd.R_base ho0) hb) | exact Kd.N_mono (Kd.N_elder' (by (with_reducible repeat (first | apply Kd.N_alloc | apply Kd.N_drewN | apply Kd.N_drew)); exact (Q_HO307 h0_)) (Kd.R_base ho0) hb) (fun _ h_ => by first | trivial | exact h_ | exact h_.1))
          clear HO294 HO299 BK283 BK287 BK291
          (try clear HC)
          clear HB
          have HO294 := n3_
          have HO299 := n4_
          have HO304 := n5_
          have BK283 := n6_
          have BK287 := n7_
          have BK291 := n8_
          have HB := n9_
          have HC := mHC_
          clear n3_ n4_ n5_ n6_ n7_ n8_ n9_
          (try clear hb)
          (try clear hb2)
          (try clear hk)
          (try clear hi)
          (try clear ho0)
          refine hK.out _ _ ⟨v303, v306, v310, m5_, m6_, m7_, m9_, (by rw [ha.out]; exact putSel_upk 0 hb_ rfl rfl rfl), z_HO282, z_HO286, z_HO290, (by (with_reducible repeat (first | apply Kd.R_alloc | apply Kd.R_drewN | apply Kd.R_drew)); exact Kd.R_mono HO294.out (fun _ hk => hk.1)), (by (with_reducible repeat (first | apply Kd.R_alloc | apply Kd.R_drewN | apply Kd.R_drew)); exact Kd.R_mono HO299.out (fun _ hk => hk.1)), (bK BK283), (bK BK287), (bK BK291), bS, (by repeat (first | (with_reducible first | exact HC.out | apply below_alloc | apply pw_below_drewN | apply below_drew1 | refine below_set ?_ GE283.out | refine below_set ?_ GE287.out | refine below_set ?_ GE291.out) | exact HC.out)), fun _ => (by (with_reducible repeat (first | apply Kd.R_alloc | apply Kd.R_drewN | apply Kd.R_drew)); exact Kd.R_mono HO304.out (fun _ hk => ⟨hk.1.2, hk.2⟩)), z_HO307, fun h0_ => absurd ((hoff 5 (by kernel_rfl)).symm.trans h0_) (by decide), fun h0_ => absurd ((hoff 5 (by kernel_rfl)).symm.trans h0_) (by decide), fun h0_ => absurd ((hoff 6 (by kernel_rfl)).symm.trans h0_) (by decide), fun h0_ => absurd ((hoff 7 (by kernel_rfl)).symm.trans h0_) (by decide), fun h0_ => absurd ((hoff 9 (by kernel_rfl)).symm.trans h0_) (by decide)⟩
         refine steps_cons ?_ ?_
         ·rintro b a w' ⟨v303, v306, v310, m5_, m6_, m7_, m9_, ha, Q_HO282, Q_HO286, Q_HO290, Q_HO294, Q_HO299, Q_BK283, Q_BK287, Q_BK291, Q_HB, Q_HC, Q_HO304, Q_HO307, Q_HO311, Q_X5_, Q_X6_, Q_X7_, Q_X9_⟩ hb_ hon hoff
          refine ⟨_, rfl, fun K hK => ?_⟩
          have e1 : a.tmps[1]? = some (.pointer (some ⟨gb283, 0, none⟩)) := by rw [ha]; exact (putSel_off rfl).trans rfl
          replace ha := Aside0.mk ha
          have HO282 := Aside0.mk (Q_HO282 (hoff 4 (by kernel_rfl)))
          have HO286 := Aside0.mk (Q_HO286 (hoff 4 (by kernel_rfl)))
          have HO290 := Aside0.mk (Q_HO290 (hoff 4 (by kernel_rfl)))
          have HO294 := Aside0.mk Q_HO294
          have HO299 := Aside0.mk Q_HO299
          have BK283 := Aside0.mk Q_BK283
          have BK287 := Aside0.mk Q_BK287
          have BK291 := Aside0.mk Q_BK291
          have HB := Aside0.mk Q_HB
          have HC := Aside0.mk Q_HC
          have hc0_ : w'.cell? ⟨gb283, 0, none⟩ = some (.bool false) := (blk_cell BK283.out 0).trans rfl
          have hc1_ : w'.cell? ⟨gb283, 1, none⟩ = some (.slice Ao25 y280.length co25) := (blk_cell BK283.out 1).trans rfl
          refine value_ (w1 := w') (v := .agg #[.bool false, .slice Ao25 y280.length co25]) (by rfl) rfl ?_ ?_
          ·go_simp
           (try simp only [i64_w])
           try rfl
          refine hK.out _ _ ⟨v303, v306, v310, m5_, m6_, m7_, m9_, (by rw [ha.out]; exact putSel_upk 1 hb_ rfl rfl rfl), Q_HO282, Q_HO286, Q_HO290, Q_HO294, Q_HO299, Q_BK283, Q_BK287, Q_BK291, Q_HB, Q_HC, Q_HO304, fun h0_ => absurd ((hoff 4 (by kernel_rfl)).symm.trans h0_) (by decide), fun h0_ => absurd ((hoff 5 (by kernel_rfl)).symm.trans h0_) (by decide), fun h0_ => absurd ((hoff 5 (by kernel_rfl)).symm.trans h0_) (by decide), fun h0_ => absurd ((hoff 6 (by kernel_rfl)).symm.trans h0_) (by decide), fun h0_ => absurd ((hoff 7 (by kernel_rfl)).symm.trans h0_) (by decide), fun h0_ => absurd ((hoff 9 (by kernel_rfl)).symm.trans h0_) (by decide)⟩
         refine steps_cons ?_ ?_
         ·rintro b a w' ⟨v303, v306, v310, m5_, m6_, m7_, m9_, ha, Q_HO282, Q_HO286, Q_HO290, Q_HO294, Q_HO299, Q_BK283, Q_BK287, Q_BK291, Q_HB, Q_HC, Q_HO304, Q_HO307, Q_HO311, Q_X5_, Q_X6_, Q_X7_, Q_X9_⟩ hb_ hon hoff
          refine ⟨_, rfl, fun K hK => ?_⟩
          have e2 : a.tmps[2]? = some (.pointer (some ⟨gb287, 0, none⟩)) := by rw [ha]; exact (putSel_off rfl).trans rfl
          replace ha := Aside0.mk ha
          have HO282 := Aside0.mk (Q_HO282 (hoff 4 (by kernel_rfl)))
          have HO286 := Aside0.mk (Q_HO286 (hoff 4 (by kernel_rfl)))
          have HO290 := Aside0.mk (Q_HO290 (hoff 4 (by kernel_rfl)))
          have HO294 := Aside0.mk Q_HO294
          have HO299 := Aside0.mk Q_HO299
          have BK283 := Aside0.mk Q_BK283
          have BK287 := Aside0.mk Q_BK287
          have BK291 := Aside0.mk Q_BK291
          have HB := Aside0.mk Q_HB
          have HC := Aside0.mk Q_HC
          have hc0_ : w'.cell? ⟨gb287, 0, none⟩ = some (.bool true) := (blk_cell BK287.out 0).trans rfl
          have hc1_ : w'.cell? ⟨gb287, 1, none⟩ = some (.slice Ao30 y284.length co30) := (blk_cell BK287.out 1).trans rfl
          refine value_ (w1 := w') (v := .agg #[.bool true, .slice Ao30 y284.length co30]) (by rfl) rfl ?_ ?_
          ·go_simp
           (try simp only [i64_w])
           try rfl
          refine hK.out _ _ ⟨v303, v306, v310, m5_, m6_, m7_, m9_, (by rw [ha.out]; exact putSel_upk 2 hb_ rfl rfl rfl), Q_HO282, Q_HO286, Q_HO290, Q_HO294, Q_HO299, Q_BK283, Q_BK287, Q_BK291, Q_HB, Q_HC, Q_HO304, fun h0_ => absurd ((hoff 4 (by kernel_rfl)).symm.trans h0_) (by decide), fun h0_ => absurd ((hoff 5 (by kernel_rfl)).symm.trans h0_) (by decide), fun h0_ => absurd ((hoff 5 (by kernel_rfl)).symm.trans h0_) (by decide), fun h0_ => absurd ((hoff 6 (by kernel_rfl)).symm.trans h0_) (by decide), fun h0_ => absurd ((hoff 7 (by kernel_rfl)).symm.trans h0_) (by decide), fun h0_ => absurd ((hoff 9 (by kernel_rfl)).symm.trans h0_) (by decide)⟩
         refine steps_cons ?_ ?_
         ·rintro b a w' ⟨v303, v306, v310, m5_, m6_, m7_, m9_, ha, Q_HO282, Q_HO286, Q_HO290, Q_HO294, Q_HO299, Q_BK283, Q_BK287, Q_BK291, Q_HB, Q_HC, Q_HO304, Q_HO307, Q_HO311, Q_X5_, Q_X6_, Q_X7_, Q_X9_⟩ hb_ hon hoff
          refine ⟨_, rfl, fun K hK => ?_⟩
          have e3 : a.tmps[3]? = some (.pointer (some ⟨gb291, 0, none⟩)) := by rw [ha]; exact (putSel_off rfl).trans rfl
          replace ha := Aside0.mk ha
          have HO282 := Aside0.mk (Q_HO282 (hoff 4 (by kernel_rfl)))
          have HO286 := Aside0.mk (Q_HO286 (hoff 4 (by kernel_rfl)))
          have HO290 := Aside0.mk (Q_HO290 (hoff 4 (by kernel_rfl)))
          have HO294 := Aside0.mk Q_HO294
          have HO299 := Aside0.mk Q_HO299
          have BK283 := Aside0.mk Q_BK283
          have BK287 := Aside0.mk Q_BK287
          have BK291 := Aside0.mk Q_BK291
          have HB := Aside0.mk Q_HB
          have HC := Aside0.mk Q_HC
          have hc0_ : w'.cell? ⟨gb291, 0, none⟩ = some (.bool false) := (blk_cell BK291.out 0).trans rfl
          have hc1_ : w'.cell? ⟨gb291, 1, none⟩ = some (.slice Ao36 y288.length co36) := (blk_cell BK291.out 1).trans rfl
          refine value_ (w1 := w') (v := .agg #[.bool false, .slice Ao36 y288.length co36]) (by rfl) rfl ?_ ?_
          ·go_simp
           (try simp only [i64_w])
           try rfl
          refine hK.out _ _ ⟨v303, v306, v310, m5_, m6_, m7_, m9_, (by rw [ha.out]; exact putSel_upk 3 hb_ rfl rfl rfl), Q_HO282, Q_HO286, Q_HO290, Q_HO294, Q_HO299, Q_BK283, Q_BK287, Q_BK291, Q_HB, Q_HC, Q_HO304, fun h0_ => absurd ((hoff 4 (by kernel_rfl)).symm.trans h0_) (by decide), fun h0_ => absurd ((hoff 5 (by kernel_rfl)).symm.trans h0_) (by decide), fun h0_ => absurd ((hoff 5 (by kernel_rfl)).symm.trans h0_) (by decide), fun h0_ => absurd ((hoff 6 (by kernel_rfl)).symm.trans h0_) (by decide), fun h0_ => absurd ((hoff 7 (by kernel_rfl)).symm.trans h0_) (by decide), fun h0_ => absurd ((hoff 9 (by kernel_rfl)).symm.trans h0_) (by decide)⟩
         refine steps_cons ?_ ?_
         ·rintro b a w' ⟨v303, v306, v310, m5_, m6_, m7_, m9_, ha, Q_HO282, Q_HO286, Q_HO290, Q_HO294, Q_HO299, Q_BK283, Q_BK287, Q_BK291, Q_HB, Q_HC, Q_HO304, Q_HO307, Q_HO311, Q_X5_, Q_X6_, Q_X7_, Q_X9_⟩ hb_ hon hoff
          refine ⟨_, rfl, fun K hK => ?_⟩
          have e33 : a.tmps[33]? = some (.agg #[.bool false, .slice Ao25 y280.length co25]) := by rw [ha]; exact putSel_on (e := (1, 33, .agg #[.bool false, .slice Ao25 y280.length co25])) 1 rfl rfl (hon 1 (by kernel_rfl)) rfl
          have e34 : a.tmps[34]? = some (.agg #[.bool true, .slice Ao30 y284.length co30]) := by rw [ha]; exact putSel_on (e := (2, 34, .agg #[.bool true, .slice Ao30 y284.length co30])) 2 rfl rfl (hon 2 (by kernel_rfl)) rfl
          have e35 : a.tmps[35]? = some (.agg #[.bool false, .slice Ao36 y288.length co36]) := by rw [ha]; exact putSel_on (e := (3, 35, .agg #[.bool false, .slice Ao36 y288.length co36])) 3 rfl rfl (hon 3 (by kernel_rfl)) rfl
          replace ha := Aside0.mk ha
          have HO282 := Aside0.mk (Q_HO282 hb_)
          have HO286 := Aside0.mk (Q_HO286 hb_)
          have HO290 := Aside0.mk (Q_HO290 hb_)
          have HO294 := Aside0.mk Q_HO294
          have HO299 := Aside0.mk Q_HO299
          have BK283 := Aside0.mk Q_BK283
          have BK287 := Aside0.mk Q_BK287
          have BK291 := Aside0.mk Q_BK291
          have HB := Aside0.mk Q_HB
          have HC := Aside0.mk Q_HC
          refine Kd.N_lit_step k25 _ 25 ?hg (N' := 36) ?hd (xs := ([(⟨false, y280⟩ : S25), (⟨true, y284⟩ : S25), (⟨false, y288⟩ : S25)] : List (S25))) (inner := [.bool false, .slice Ao25 y280.length co25, .bool true, .slice Ao30 y284.length co30, .bool false, .slice Ao36 y288.length co36]) (ok := (fun k_ => some k_ ≠ (.slice Ao44 t292.length co44 : Value).ownBlock ∧ some k_ ≠ (.slice Ao48 t297.length co48 : Value).ownBlock ∧ k_ ≠ gb283 ∧ k_ ≠ gb287 ∧ k_ ≠ gb291)) (okp := (fun k_ => some k_ ≠ (.slice Ao44 t292.length co44 : Value).ownBlock ∧ some k_ ≠ (.slice Ao48 t297.length co48 : Value).ownBlock ∧ k_ ≠ gb283 ∧ k_ ≠ gb287 ∧ k_ ≠ gb291)) ?hr ?hp (fun _ hk => hk) ((show ∀ k_, w'.heap.size ≤ k_ → (fun k_ => some k_ ≠ (.slice Ao44 t292.length co44 : Value).ownBlock ∧ some k_ ≠ (.slice Ao48 t297.length co48 : Value).ownBlock ∧ k_ ≠ gb283 ∧ k_ ≠ gb287 ∧ k_ ≠ gb291) k_ from fun k_ hk => ⟨Kd.fresh' (Kd.R_lt (rK HO294)) k_ hk, Kd.fresh' (Kd.R_lt (rK HO299)) k_ hk, Kd.freshB (g := gb283) (o := .cells #[.bool false, .slice Ao25 y280.length co25] 25 (0, 0)) (bK BK283) k_ hk, Kd.freshB (g := gb287) (o := .cells #[.bool true, .slice Ao30 y284.length co30] 25 (0, 0)) (bK BK287) k_ hk, Kd.freshB (g := gb291) (o := .cells #[.bool false, .slice Ao36 y288.length co36] 25 (0, 0)) (bK BK291) k_ hk⟩) _ (Nat.le_refl _)) (Below.refl _ _) (Nat.le_refl _) (by simp) ?_; (case hd => rfl); (case hg => rfl); (case hr => first | (go_simp; done) | (go_simp; rfl)); (case hp => exact (Reps.c2 (show Kd.FK k25 _ _ (⟨false, y280⟩ : S25) [.bool false, .slice Ao25 y280.length co25] from (k25_mkF _ _ (⟨false, y280⟩ : S25) (Kd.R_reads' (Kd.R_mono (ok' := (fun k_ => some k_ ≠ (.slice Ao44 t292.length co44 : Value).ownBlock ∧ some k_ ≠ (.slice Ao48 t297.length co48 : Value).ownBlock ∧ k_ ≠ gb283 ∧ k_ ≠ gb287 ∧ k_ ≠ gb291)) (Kd.R_types (Kd.R_types (Kd.R_types (Kd.R_apart' (Kd.R_apart' (HO282.out) (Kd.R_typed HO294.out) (by decide)) (Kd.R_typed HO299.out) (by decide)) BK283.out (by decide)) BK287.out (by decide)) BK291.out (by decide)) (fun k_ hk => ⟨hk.1.1.1.1.2, ⟨hk.1.1.1.2, ⟨hk.1.1.2, ⟨hk.1.2, hk.2⟩⟩⟩⟩))).2.1 (Kd.R_F (Kd.R_mono (ok' := (fun k_ => some k_ ≠ (.slice Ao44 t292.length co44 : Value).ownBlock ∧ some k_ ≠ (.slice Ao48 t297.length co48 : Value).ownBlock ∧ k_ ≠ gb283 ∧ k_ ≠ gb287 ∧ k_ ≠ gb291)) (Kd.R_types (Kd.R_types (Kd.R_types (Kd.R_apart' (Kd.R_apart' (HO282.out) (Kd.R_typed HO294.out) (by decide)) (Kd.R_typed HO299.out) (by decide)) BK283.out (by decide)) BK287.out (by decide)) BK291.out (by decide)) (fun k_ hk => ⟨hk.1.1.1.1.2, ⟨hk.1.1.1.2, ⟨hk.1.1.2, ⟨hk.1.2, hk.2⟩⟩⟩⟩))))) (Reps.c2 (show Kd.FK k25 _ _ (⟨true, y284⟩ : S25) [.bool true, .slice Ao30 y284.length co30] from (k25_mkF _ _ (⟨true, y284⟩ : S25) (Kd.R_reads' (Kd.R_mono (ok' := (fun k_ => some k_ ≠ (.slice Ao44 t292.length co44 : Value).ownBlock ∧ some k_ ≠ (.slice Ao48 t297.length co48 : Value).ownBlock ∧ k_ ≠ gb283 ∧ k_ ≠ gb287 ∧ k_ ≠ gb291)) (Kd.R_types (Kd.R_types (Kd.R_types (Kd.R_apart' (Kd.R_apart' (HO286.out) (Kd.R_typed HO294.out) (by decide)) (Kd.R_typed HO299.out) (by decide)) BK283.out (by decide)) BK287.out (by decide)) BK291.out (by decide)) (fun k_ hk => ⟨hk.1.1.1.1.2, ⟨hk.1.1.1.2, ⟨hk.1.1.2, ⟨hk.1.2, hk.2⟩⟩⟩⟩))).2.1 (Kd.R_F (Kd.R_mono (ok' := (fun k_ => some k_ ≠ (.slice Ao44 t292.length co44 : Value).ownBlock ∧ some k_ ≠ (.slice Ao48 t297.length co48 : Value).ownBlock ∧ k_ ≠ gb283 ∧ k_ ≠ gb287 ∧ k_ ≠ gb291)) (Kd.R_types (Kd.R_types (Kd.R_types (Kd.R_apart' (Kd.R_apart' (HO286.out) (Kd.R_typed HO294.out) (by decide)) (Kd.R_typed HO299.out) (by decide)) BK283.out (by decide)) BK287.out (by decide)) BK291.out (by decide)) (fun k_ hk => ⟨hk.1.1.1.1.2, ⟨hk.1.1.1.2, ⟨hk.1.1.2, ⟨hk.1.2, hk.2⟩⟩⟩⟩))))) (Reps.c2 (show Kd.FK k25 _ _ (⟨false, y288⟩ : S25) [.bool false, .slice Ao36 y288.length co36] from (k25_mkF _ _ (⟨false, y288⟩ : S25) (Kd.R_reads' (Kd.R_mono (ok' := (fun k_ => some k_ ≠ (.slice Ao44 t292.length co44 : Value).ownBlock ∧ some k_ ≠ (.slice Ao48 t297.length co48 : Value).ownBlock ∧ k_ ≠ gb283 ∧ k_ ≠ gb287 ∧ k_ ≠ gb291)) (Kd.R_types (Kd.R_types (Kd.R_types (Kd.R_apart' (Kd.R_apart' (HO290.out) (Kd.R_typed HO294.out) (by decide)) (Kd.R_typed HO299.out) (by decide)) BK283.out (by decide)) BK287.out (by decide)) BK291.out (by decide)) (fun k_ hk => ⟨hk.1.1.1.1.2, ⟨hk.1.1.1.2, ⟨hk.1.1.2, ⟨hk.1.2, hk.2⟩⟩⟩⟩))).2.1 (Kd.R_F (Kd.R_mono (ok' := (fun k_ => some k_ ≠ (.slice Ao44 t292.length co44 : Value).ownBlock ∧ some k_ ≠ (.slice Ao48 t297.length co48 : Value).ownBlock ∧ k_ ≠ gb283 ∧ k_ ≠ gb287 ∧ k_ ≠ gb291)) (Kd.R_types (Kd.R_types (Kd.R_types (Kd.R_apart' (Kd.R_apart' (HO290.out) (Kd.R_typed HO294.out) (by decide)) (Kd.R_typed HO299.out) (by decide)) BK283.out (by decide)) BK287.out (by decide)) BK291.out (by decide)) (fun k_ hk => ⟨hk.1.1.1.1.2, ⟨hk.1.1.1.2, ⟨hk.1.1.2, ⟨hk.1.2, hk.2⟩⟩⟩⟩))))) (Reps.none _ _)))))
          intro v306 w51 ho52 hb hg_ hnew_
          clear hg_ hnew_
          (first | rw [← Ny305.out] at ho52 | (simp only [Int.reduceToNat] at ho52; rw [← Ny305.out] at ho52))
          have n0_ := Aside0.mk (Kd.R_below (rK HO294) hb)
          have n1_ := Aside0.mk (Kd.R_below (rK HO299) hb)
          have n2_ := Aside0.mk (Kd.N_lower ho52 (below_size bS))
          have n3_ := Aside0.mk (blk_below (g := gb283) (o := .cells #[.bool false, .slice Ao25 y280.length co25] 25 (0, 0)) (bK BK283) hb)
          have n4_ := Aside0.mk (blk_below (g := gb287) (o := .cells #[.bool true, .slice Ao30 y284.length co30] 25 (0, 0)) (bK BK287) hb)
          have n5_ := Aside0.mk (blk_below (g := gb291) (o := .cells #[.bool false, .slice Ao36 y288.length co36] 25 (0, 0)) (bK BK291) hb)
          have n6_ := Aside0.mk (below_step bS hb)
          have mHC_ := Aside0.mk (below_step (by repeat (first | (with_reducible first | exact HC.out | apply below_alloc | apply pw_below_drewN | apply below_drew1 | refine below_set ?_ GE283.out | refine below_set ?_ GE287.out | refine below_set ?_ GE291.out) | exact HC.out)) hb)
          have z_HO304 := fun (h0_ : b 0 = true) => (show Kd.R k58 58 w51 w.heap.size (fun k_ => some k_ ≠ (.slice Ao44 t292.length co44 : Value).ownBlock ∧ some k_ ≠ (.slice Ao48 t297.length co48 : Value).ownBlock) v303 t302 from by first | exact (Kd.R_below (by (with_reducible repeat (first | apply Kd.R_alloc | apply Kd.R_drewN | apply Kd.R_drew)); exact (Q_HO304 h0_)) hb) | exact Kd.R_mono (Kd.R_below (by (with_reducible repeat (first | apply Kd.R_alloc | apply Kd.R_drewN | apply Kd.R_drew)); exact (Q_HO304 h0_)) hb) (fun _ h_ => by first | trivial | exact h_ | exact h_.1))
          clear HO294 HO299 BK283 BK287 BK291
          (try clear HC)
          clear HB HO282 HO286 HO290
          have HO294 := n0_
          have HO299 := n1_
          have HO307 := n2_
          have BK283 := n3_
          have BK287 := n4_
          have BK291 := n5_
          have HB := n6_
          have HC := mHC_
          clear n0_ n1_ n2_ n3_ n4_ n5_ n6_ hb ho52
          refine hK.out _ _ ⟨v303, v306, v310, m5_, m6_, m7_, m9_, (by rw [ha.out]; exact putSel_upk 4 hb_ rfl rfl rfl), fun h0_ => absurd ((up_self b 4).symm.trans h0_) (by decide), fun h0_ => absurd ((up_self b 4).symm.trans h0_) (by decide), fun h0_ => absurd ((up_self b 4).symm.trans h0_) (by decide), (rK HO294), (rK HO299), (bK BK283), (bK BK287), (bK BK291), bS, (by repeat (first | (with_reducible first | exact HC.out | apply below_alloc | apply pw_below_drewN | apply below_drew1 | refine below_set ?_ GE283.out | refine below_set ?_ GE287.out | refine below_set ?_ GE291.out) | exact HC.out)), z_HO304, fun _ => (nK HO307), fun h0_ => absurd ((hoff 5 (by kernel_rfl)).symm.trans h0_) (by decide), fun h0_ => absurd ((hoff 5 (by kernel_rfl)).symm.trans h0_) (by decide), fun h0_ => absurd ((hoff 6 (by kernel_rfl)).symm.trans h0_) (by decide), fun h0_ => absurd ((hoff 7 (by kernel_rfl)).symm.trans h0_) (by decide), fun h0_ => absurd ((hoff 9 (by kernel_rfl)).symm.trans h0_) (by decide)⟩
         refine steps_cons ?_ ?_
         ·rintro b a w' ⟨v303, v306, v310, m5_, m6_, m7_, m9_, ha, Q_HO282, Q_HO286, Q_HO290, Q_HO294, Q_HO299, Q_BK283, Q_BK287, Q_BK291, Q_HB, Q_HC, Q_HO304, Q_HO307, Q_HO311, Q_X5_, Q_X6_, Q_X7_, Q_X9_⟩ hb_ hon hoff
          refine ⟨_, rfl, fun K hK => ?_⟩
          have e32 : a.tmps[32]? = some (v303) := by rw [ha]; exact putSel_on (e := (0, 32, v303)) 0 rfl rfl (hon 0 (by kernel_rfl)) rfl
          have e36 : a.tmps[36]? = some (v306) := by rw [ha]; exact putSel_on (e := (4, 36, v306)) 4 rfl rfl (hon 4 (by kernel_rfl)) rfl
          replace ha := Aside0.mk ha
          have HO294 := Aside0.mk Q_HO294
          have HO299 := Aside0.mk Q_HO299
          have BK283 := Aside0.mk Q_BK283
          have BK287 := Aside0.mk Q_BK287
          have BK291 := Aside0.mk Q_BK291
          have HB := Aside0.mk Q_HB
          have HC := Aside0.mk Q_HC
          have HO304 := Aside0.mk (Q_HO304 (hon 0 (by kernel_rfl)))
          have HO307 := Aside0.mk (Q_HO307 (hon 4 (by kernel_rfl)))
          obtain ⟨Ao55, co55, eo55⟩ := Kd.R_slice HO304.out
          (first | subst eo55 | (injection eo55 with f1_ f2_ f3_; have f4_ := f1_.symm; have f5_ := f3_.symm; clear f1_ f2_ f3_; subst f4_; subst f5_))
          obtain ⟨Ao56, co56, eo56⟩ := Kd.N_slice HO307.out
          (first | subst eo56 | (injection eo56 with f1_ f2_ f3_; have f4_ := f1_.symm; have f5_ := f3_.symm; clear f1_ f2_ f3_; subst f4_; subst f5_))
          refine goes_ Tryd.func19 (by kernel_rfl) rfl #[.slice Ao55 t302.length co55, .slice Ao56 y305.length co56] (by rfl) rfl rfl (by first | (simp only [List.map_toArray, List.map_cons, List.map_nil, Act.eval, Array.getD_eq_getD_getElem?, Option.getD_some, e32, e36]; done) | (simp only [List.map_toArray, List.map_cons, List.map_nil, Act.eval, Array.getD_eq_getD_getElem?, Option.getD_some, e32, e36]; rfl)) ?_
          with_reducible refine (lit_Tops.calls (hG := gK) k _ _ t302 _ _ y305 t308 t309 _ ?side1 ?side2 ?side3 ?side4 A6.out).mono ?_
          (case side1 => exact cK ((Kd.R_reads' HO304.out).2.2))
          (case side2 => exact (Kd.R_reads' HO304.out).2.1)
          (case side3 => exact cK ((Kd.N_reads' HO307.out).2.2))
          (case side4 => exact (Kd.N_reads' HO307.out).2.1)
          rintro e w57 ⟨v310, rfl, ho0, hb⟩
          refine ⟨_, rfl, ?_⟩
          have n0_ := Aside0.mk (Kd.R_below (rK HO294) hb)
          have n1_ := Aside0.mk (Kd.R_below (rK HO299) hb)
          have n2_ := Aside0.mk (Kd.R_below (rK HO304) hb)
          have n3_ := Aside0.mk (Kd.N_elder' (nK HO307) (Kd.R_base ho0) hb)
          have n4_ := Aside0.mk (Kd.R_lower ho0 (below_size bS))
          have n5_ := Aside0.mk (blk_below (g := gb283) (o := .cells #[.bool false, .slice Ao25 y280.length co25] 25 (0, 0)) (bK BK283) hb)
          have n6_ := Aside0.mk (blk_below (g := gb287) (o := .cells #[.bool true, .slice Ao30 y284.length co30] 25 (0, 0)) (bK BK287) hb)
          have n7_ := Aside0.mk (blk_below (g := gb291) (o := .cells #[.bool false, .slice Ao36 y288.length co36] 25 (0, 0)) (bK BK291) hb)
          have n8_ := Aside0.mk (below_step bS hb)
          have mHC_ := Aside0.mk (below_step (by repeat (first | (with_reducible first | exact HC.out | apply below_alloc | apply pw_below_drewN | apply below_drew1 | refine below_set ?_ GE283.out | refine below_set ?_ GE287.out | refine below_set ?_ GE291.out) | exact HC.out)) hb)
          clear HO294 HO299 HO304 HO307 BK283 BK287 BK291
          (try clear HC)
          clear HB
          have HO294 := n0_
          have HO299 := n1_
          have HO304 := n2_
          have HO307 := n3_
          have HO311 := n4_
          have BK283 := n5_
          have BK287 := n6_
          have BK291 := n7_
          have HB := n8_
          have HC := mHC_
          clear n0_ n1_ n2_ n3_ n4_ n5_ n6_ n7_ n8_
          (try clear hb)
          (try clear hb2)
          (try clear hk)
          (try clear hi)
          (try clear ho0)
          refine hK.out _ _ ⟨.slice Ao55 t302.length co55, .slice Ao56 y305.length co56, v310, (.tuple #[v310, .int .i64 t309]), m6_, m7_, m9_, (by rw [ha.out]; exact putSel_upk 5 hb_ rfl rfl rfl), fun h0_ => absurd ((hon 4 (by kernel_rfl)).symm.trans h0_) (by decide), fun h0_ => absurd ((hon 4 (by kernel_rfl)).symm.trans h0_) (by decide), fun h0_ => absurd ((hon 4 (by kernel_rfl)).symm.trans h0_) (by decide), (rK HO294), (rK HO299), (bK BK283), (bK BK287), (bK BK291), bS, (by repeat (first | (with_reducible first | exact HC.out | apply below_alloc | apply pw_below_drewN | apply below_drew1 | refine below_set ?_ GE283.out | refine below_set ?_ GE287.out | refine below_set ?_ GE291.out) | exact HC.out)), fun _ => (rK HO304), fun _ => (by (with_reducible repeat (first | apply Kd.N_alloc | apply Kd.N_drewN | apply Kd.N_drew)); exact Kd.N_mono HO307.out (fun _ hk => hk.1)), fun _ => (rK HO311), fun _ => rfl, fun h0_ => absurd ((hoff 6 (by kernel_rfl)).symm.trans h0_) (by decide), fun h0_ => absurd ((hoff 7 (by kernel_rfl)).symm.trans h0_) (by decide), fun h0_ => absurd ((hoff 9 (by kernel_rfl)).symm.trans h0_) (by decide)⟩
         refine steps_cons ?_ ?_
         ·rintro b a w' ⟨v303, v306, v310, m5_, m6_, m7_, m9_, ha, Q_HO282, Q_HO286, Q_HO290, Q_HO294, Q_HO299, Q_BK283, Q_BK287, Q_BK291, Q_HB, Q_HC, Q_HO304, Q_HO307, Q_HO311, Q_X5_, Q_X6_, Q_X7_, Q_X9_⟩ hb_ hon hoff
          refine ⟨_, rfl, fun K hK => ?_⟩
          have e37 : a.tmps[37]? = some (m5_) := by rw [ha]; exact putSel_on (e := (5, 37, m5_)) 5 rfl rfl (hon 5 (by kernel_rfl)) rfl
          rw [Q_X5_ (hon 5 (by kernel_rfl))] at e37
          replace ha := Aside0.mk ha
          have HO294 := Aside0.mk Q_HO294
          have HO299 := Aside0.mk Q_HO299
          have BK283 := Aside0.mk Q_BK283
          have BK287 := Aside0.mk Q_BK287
          have BK291 := Aside0.mk Q_BK291
          have HB := Aside0.mk Q_HB
          have HC := Aside0.mk Q_HC
          have HO304 := Aside0.mk (Q_HO304 (hon 0 (by kernel_rfl)))
          have HO307 := Aside0.mk (Q_HO307 (hon 4 (by kernel_rfl)))
          have HO311 := Aside0.mk (Q_HO311 (hon 5 (by kernel_rfl)))
          refine value_ (w1 := w') (v := .tuple #[v310, .int .i64 t309]) (by rfl) rfl ?_ ?_
          ·go_simp
           (try simp only [i64_w])
           try rfl
          refine hK.out _ _ ⟨v303, v306, v310, m5_, (.tuple #[v310, .int .i64 t309]), m7_, m9_, (by rw [ha.out]; exact putSel_upk 6 hb_ rfl rfl rfl), fun h0_ => absurd ((hon 4 (by kernel_rfl)).symm.trans h0_) (by decide), fun h0_ => absurd ((hon 4 (by kernel_rfl)).symm.trans h0_) (by decide), fun h0_ => absurd ((hon 4 (by kernel_rfl)).symm.trans h0_) (by decide), Q_HO294, Q_HO299, Q_BK283, Q_BK287, Q_BK291, Q_HB, Q_HC, Q_HO304, Q_HO307, Q_HO311, Q_X5_, fun _ => rfl, fun h0_ => absurd ((hoff 7 (by kernel_rfl)).symm.trans h0_) (by decide), fun h0_ => absurd ((hoff 9 (by kernel_rfl)).symm.trans h0_) (by decide)⟩
         refine steps_cons ?_ ?_
         ·rintro b a w' ⟨v303, v306, v310, m5_, m6_, m7_, m9_, ha, Q_HO282, Q_HO286, Q_HO290, Q_HO294, Q_HO299, Q_BK283, Q_BK287, Q_BK291, Q_HB, Q_HC, Q_HO304, Q_HO307, Q_HO311, Q_X5_, Q_X6_, Q_X7_, Q_X9_⟩ hb_ hon hoff
          refine ⟨_, rfl, fun K hK => ?_⟩
          have e31 : a.tmps[31]? = some (m6_) := by rw [ha]; exact putSel_on (e := (6, 31, m6_)) 6 rfl rfl (hon 6 (by kernel_rfl)) rfl
          rw [Q_X6_ (hon 6 (by kernel_rfl))] at e31
          replace ha := Aside0.mk ha
          have HO294 := Aside0.mk Q_HO294
          have HO299 := Aside0.mk Q_HO299
          have BK283 := Aside0.mk Q_BK283
          have BK287 := Aside0.mk Q_BK287
          have BK291 := Aside0.mk Q_BK291
          have HB := Aside0.mk Q_HB
          have HC := Aside0.mk Q_HC
          have HO304 := Aside0.mk (Q_HO304 (hon 0 (by kernel_rfl)))
          have HO307 := Aside0.mk (Q_HO307 (hon 4 (by kernel_rfl)))
          have HO311 := Aside0.mk (Q_HO311 (hon 5 (by kernel_rfl)))
          obtain ⟨Ao7_0, co7_0, eo_⟩ := Kd.R_slice HO311.out
          subst eo_
          refine value_ (w1 := w') (v := .slice Ao7_0 t308.length co7_0) (by rfl) rfl ?_ ?_
          ·go_simp
           (try simp only [i64_w])
           try rfl
          refine hK.out _ _ ⟨v303, v306, .slice Ao7_0 t308.length co7_0, m5_, m6_, (.slice Ao7_0 t308.length co7_0), m9_, (by rw [ha.out]; exact putSel_upk 7 hb_ rfl rfl rfl), fun h0_ => absurd ((hon 4 (by kernel_rfl)).symm.trans h0_) (by decide), fun h0_ => absurd ((hon 4 (by kernel_rfl)).symm.trans h0_) (by decide), fun h0_ => absurd ((hon 4 (by kernel_rfl)).symm.trans h0_) (by decide), Q_HO294, Q_HO299, Q_BK283, Q_BK287, Q_BK291, Q_HB, Q_HC, Q_HO304, Q_HO307, Q_HO311, Q_X5_, Q_X6_, fun _ => rfl, fun h0_ => absurd ((hoff 9 (by kernel_rfl)).symm.trans h0_) (by decide)⟩
         refine steps_cons ?_ ?_
         ·rintro b a w' ⟨v303, v306, v310, m5_, m6_, m7_, m9_, ha, Q_HO282, Q_HO286, Q_HO290, Q_HO294, Q_HO299, Q_BK283, Q_BK287, Q_BK291, Q_HB, Q_HC, Q_HO304, Q_HO307, Q_HO311, Q_X5_, Q_X6_, Q_X7_, Q_X9_⟩ hb_ hon hoff
          refine ⟨_, rfl, fun K hK => ?_⟩
          have e31 : a.tmps[31]? = some (m6_) := by rw [ha]; exact putSel_on (e := (6, 31, m6_)) 6 rfl rfl (hon 6 (by kernel_rfl)) rfl
          rw [Q_X6_ (hon 6 (by kernel_rfl))] at e31
          replace ha := Aside0.mk ha
          have HO294 := Aside0.mk Q_HO294
          have HO299 := Aside0.mk Q_HO299
          have BK283 := Aside0.mk Q_BK283
          have BK287 := Aside0.mk Q_BK287
          have BK291 := Aside0.mk Q_BK291
          have HB := Aside0.mk Q_HB
          have HC := Aside0.mk Q_HC
          have HO304 := Aside0.mk (Q_HO304 (hon 0 (by kernel_rfl)))
          have HO307 := Aside0.mk (Q_HO307 (hon 4 (by kernel_rfl)))
          have HO311 := Aside0.mk (Q_HO311 (hon 5 (by kernel_rfl)))
          obtain ⟨Ao8_0, co8_0, eo_⟩ := Kd.R_slice HO311.out
          subst eo_
          refine value_ (w1 := w') (v := .int .i64 t309) (by rfl) rfl ?_ ?_
          ·go_simp
           (try simp only [i64_w])
           try rfl
          refine hK.out _ _ ⟨v303, v306, .slice Ao8_0 t308.length co8_0, m5_, m6_, m7_, m9_, (by rw [ha.out]; exact putSel_upk 8 hb_ rfl rfl rfl), fun h0_ => absurd ((hon 4 (by kernel_rfl)).symm.trans h0_) (by decide), fun h0_ => absurd ((hon 4 (by kernel_rfl)).symm.trans h0_) (by decide), fun h0_ => absurd ((hon 4 (by kernel_rfl)).symm.trans h0_) (by decide), Q_HO294, Q_HO299, Q_BK283, Q_BK287, Q_BK291, Q_HB, Q_HC, Q_HO304, Q_HO307, Q_HO311, Q_X5_, Q_X6_, Q_X7_, Q_X9_⟩
         refine steps_cons ?_ ?_
         ·rintro b a w' ⟨v303, v306, v310, m5_, m6_, m7_, m9_, ha, Q_HO282, Q_HO286, Q_HO290, Q_HO294, Q_HO299, Q_BK283, Q_BK287, Q_BK291, Q_HB, Q_HC, Q_HO304, Q_HO307, Q_HO311, Q_X5_, Q_X6_, Q_X7_, Q_X9_⟩ hb_ hon hoff
          refine ⟨_, rfl, fun K hK => ?_⟩
          have e38 : a.tmps[38]? = some (m7_) := by rw [ha]; exact putSel_on (e := (7, 38, m7_)) 7 rfl rfl (hon 7 (by kernel_rfl)) rfl
          rw [Q_X7_ (hon 7 (by kernel_rfl))] at e38
          replace ha := Aside0.mk ha
          have HO294 := Aside0.mk Q_HO294
          have HO299 := Aside0.mk Q_HO299
          have BK283 := Aside0.mk Q_BK283
          have BK287 := Aside0.mk Q_BK287
          have BK291 := Aside0.mk Q_BK291
          have HB := Aside0.mk Q_HB
          have HC := Aside0.mk Q_HC
          have HO304 := Aside0.mk (Q_HO304 (hon 0 (by kernel_rfl)))
          have HO307 := Aside0.mk (Q_HO307 (hon 4 (by kernel_rfl)))
          have HO311 := Aside0.mk (Q_HO311 (hon 5 (by kernel_rfl)))
          refine value_ (w1 := w') (v := v310) (by rfl) rfl ?_ ?_
          ·go_simp
           (try simp only [i64_w])
           try rfl
          refine hK.out _ _ ⟨v303, v306, v310, m5_, m6_, m7_, (v310), (by rw [ha.out]; exact putSel_upk 9 hb_ rfl rfl rfl), fun h0_ => absurd ((hon 4 (by kernel_rfl)).symm.trans h0_) (by decide), fun h0_ => absurd ((hon 4 (by kernel_rfl)).symm.trans h0_) (by decide), fun h0_ => absurd ((hon 4 (by kernel_rfl)).symm.trans h0_) (by decide), Q_HO294, Q_HO299, Q_BK283, Q_BK287, Q_BK291, Q_HB, Q_HC, Q_HO304, Q_HO307, Q_HO311, Q_X5_, Q_X6_, Q_X7_, fun _ => rfl⟩
         refine steps_cons ?_ ?_
         ·rintro b a w' ⟨v303, v306, v310, m5_, m6_, m7_, m9_, ha, Q_HO282, Q_HO286, Q_HO290, Q_HO294, Q_HO299, Q_BK283, Q_BK287, Q_BK291, Q_HB, Q_HC, Q_HO304, Q_HO307, Q_HO311, Q_X5_, Q_X6_, Q_X7_, Q_X9_⟩ hb_ hon hoff
          refine ⟨_, rfl, fun K hK => ?_⟩
          have e39 : a.tmps[39]? = some (.int .i64 t309) := by rw [ha]; exact putSel_on (e := (8, 39, .int .i64 t309)) 8 rfl rfl (hon 8 (by kernel_rfl)) rfl
          replace ha := Aside0.mk ha
          have HO294 := Aside0.mk Q_HO294
          have HO299 := Aside0.mk Q_HO299
          have BK283 := Aside0.mk Q_BK283
          have BK287 := Aside0.mk Q_BK287
          have BK291 := Aside0.mk Q_BK291
          have HB := Aside0.mk Q_HB
          have HC := Aside0.mk Q_HC
          have HO304 := Aside0.mk (Q_HO304 (hon 0 (by kernel_rfl)))
          have HO307 := Aside0.mk (Q_HO307 (hon 4 (by kernel_rfl)))
          have HO311 := Aside0.mk (Q_HO311 (hon 5 (by kernel_rfl)))
          refine value_ (w1 := w') (v := .int .i64 t309) (by rfl) rfl ?_ ?_
          ·go_simp
           (try simp only [i64_w])
           try rfl
          refine hK.out _ _ ⟨v303, v306, v310, m5_, m6_, m7_, m9_, (by rw [ha.out]; exact putSel_upk 10 hb_ rfl rfl rfl), fun h0_ => absurd ((hon 4 (by kernel_rfl)).symm.trans h0_) (by decide), fun h0_ => absurd ((hon 4 (by kernel_rfl)).symm.trans h0_) (by decide), fun h0_ => absurd ((hon 4 (by kernel_rfl)).symm.trans h0_) (by decide), Q_HO294, Q_HO299, Q_BK283, Q_BK287, Q_BK291, Q_HB, Q_HC, Q_HO304, Q_HO307, Q_HO311, Q_X5_, Q_X6_, Q_X7_, Q_X9_⟩
         exact steps_nil
        rintro b a w57 hall ⟨v303, v306, v310, m5_, m6_, m7_, m9_, ha, Q_HO282, Q_HO286, Q_HO290, Q_HO294, Q_HO299, Q_BK283, Q_BK287, Q_BK291, Q_HB, Q_HC, Q_HO304, Q_HO307, Q_HO311, Q_X5_, Q_X6_, Q_X7_, Q_X9_⟩
        (try clear HC)
        clear BK283 BK287 BK291 HB HO282 HO286 HO290 HO294 HO299
        have hb0_ := hall 0 (by kernel_rfl)
        have hb1_ := hall 1 (by kernel_rfl)
        have hb2_ := hall 2 (by kernel_rfl)
        have hb3_ := hall 3 (by kernel_rfl)
        have hb4_ := hall 4 (by kernel_rfl)
        have hb5_ := hall 5 (by kernel_rfl)
        have hb6_ := hall 6 (by kernel_rfl)
        have hb7_ := hall 7 (by kernel_rfl)
        have hb8_ := hall 8 (by kernel_rfl)
        have hb9_ := hall 9 (by kernel_rfl)
        have hb10_ := hall 10 (by kernel_rfl)
        subst ha
        obtain rfl := Q_X5_ hb5_
        obtain rfl := Q_X6_ hb6_
        obtain rfl := Q_X7_ hb7_
        obtain rfl := Q_X9_ hb9_
        simp only [putSel, hb0_, hb1_, hb2_, hb3_, hb4_, hb5_, hb6_, hb7_, hb8_, hb9_, hb10_, if_true, Act.put, List.setIfInBounds_toArray, List.set_cons_zero, List.set_cons_succ]
        clear Q_HO282 Q_HO286 Q_HO290
        have HO294 := Aside0.mk Q_HO294
        clear Q_HO294
        have HO299 := Aside0.mk Q_HO299
        clear Q_HO299
        have BK283 := Aside0.mk Q_BK283
        clear Q_BK283
        have BK287 := Aside0.mk Q_BK287
        clear Q_BK287
        have BK291 := Aside0.mk Q_BK291
        clear Q_BK291
        have HB := Aside0.mk Q_HB
        have HC := Aside0.mk Q_HC
        (try clear Q_HC)
        clear Q_HB
        have HO304 := Aside0.mk (Q_HO304 hb0_)
        clear Q_HO304
        have HO307 := Aside0.mk (Q_HO307 hb4_)
        clear Q_HO307
        have HO311 := Aside0.mk (Q_HO311 hb5_)
        clear Q_HO311 hall hb0_ hb1_ hb2_ hb3_ hb4_ hb5_ hb6_ hb7_ hb8_ hb9_ hb10_
        try go_wp2_with (first | ((with_reducible refine gate_callee (f := 30) rfl ?_); refine goesL_ (some 41) rfl rfl Tryd.func30 (by kernel_rfl) rfl #[] rfl mA ?_; (with_reducible refine (quaerelaw7_words.calls  t312 _ A7.out).mono ?_); rintro e w58 ⟨v313, rfl, ho0, hb⟩; refine ⟨_, rfl, ?_⟩; have n0_ := Aside0.mk (Kd.R_elder' (rK HO294) (Kd.R_base ho0) hb); have n1_ := Aside0.mk (Kd.R_elder' (rK HO299) (Kd.R_base ho0) hb); have n2_ := Aside0.mk (Kd.R_elder' (rK HO304) (Kd.R_base ho0) hb); have n3_ := Aside0.mk (Kd.N_elder' (nK HO307) (Kd.R_base ho0) hb); have n4_ := Aside0.mk (Kd.R_below (rK HO311) hb); have n5_ := Aside0.mk (Kd.R_lower (Kd.R_new' (Kd.R_new' (Kd.R_new' ho0 (Kd.R_lt (rK HO294))) (Kd.R_lt (rK HO299))) (Kd.R_lt (rK HO304))) (below_size bS)); have n6_ := Aside0.mk (blk_below (g := gb283) (o := .cells #[.bool false, .slice Ao25 y280.length co25] 25 (0, 0)) (bK BK283) hb); have n7_ := Aside0.mk (blk_below (g := gb287) (o := .cells #[.bool true, .slice Ao30 y284.length co30] 25 (0, 0)) (bK BK287) hb); have n8_ := Aside0.mk (blk_below (g := gb291) (o := .cells #[.bool false, .slice Ao36 y288.length co36] 25 (0, 0)) (bK BK291) hb); have n9_ := Aside0.mk (below_step bS hb); have mHC_ := Aside0.mk (below_step (by repeat (first | (with_reducible first | exact HC.out | apply below_alloc | apply pw_below_drewN | apply below_drew1 | refine below_set ?_ GE283.out | refine below_set ?_ GE287.out | refine below_set ?_ GE291.out) | exact HC.out)) hb); clear HO294; clear HO299; clear HO304; clear HO307; clear HO311; clear BK283; clear BK287; clear BK291; (try clear HC); clear HB; have HO294 := n0_; have HO299 := n1_; have HO304 := n2_; have HO307 := n3_; have HO311 := n4_; have HO314 := n5_; have BK283 := n6_; have BK287 := n7_; have BK291 := n8_; have HB := n9_; have HC := mHC_; clear n0_ n1_ n2_ n3_ n4_ n5_ n6_ n7_ n8_ n9_; (try clear hb); (try clear hb2); (try clear hk); (try clear hi); (try clear ho0)) | ((with_reducible refine gate_dst (N := 42) rfl ?_); (try (refine gate_guard (by rfl) ?_; dsimp only)); refine Kd.R_lit (Kd.int .i64) _ 3 ?hg (N := 42) ?hd (xs := ([3, 1] : List Int)) (inner := [.int .i64 3, .int .i64 1]) (ok := fun _ => True) (okp := fun _ => True) ?hr ?hp (fun _ hk => hk) trivial (Below.refl _ _) (Nat.le_refl _) (by simp) ?_; (case hd => rfl); (case hg => rfl); (case hr => first | (go_simp; done) | (go_simp; rfl)); (case hp => exact (Reps.one (show Kd.M (Kd.int .i64) _ _ _ 3 [.int .i64 3] from rfl) (Reps.one (show Kd.M (Kd.int .i64) _ _ _ 1 [.int .i64 1] from rfl) (Reps.none _ _)))); intro v316 w59 ho60 hb hg_ hnew_; clear hg_ hnew_; (first | rw [← Ny315.out] at ho60 | (simp only [Int.reduceToNat] at ho60; rw [← Ny315.out] at ho60)); have n0_ := Aside0.mk (Kd.R_below (rK HO294) hb); have n1_ := Aside0.mk (Kd.R_below (rK HO299) hb); have n2_ := Aside0.mk (Kd.R_below (rK HO304) hb); have n3_ := Aside0.mk (Kd.N_elder' (nK HO307) (Kd.R_base ho60) hb); have n4_ := Aside0.mk (Kd.R_elder' (rK HO311) (Kd.R_base ho60) hb); have n5_ := Aside0.mk (Kd.R_below (rK HO314) hb); have n6_ := Aside0.mk (Kd.R_lower (Kd.R_new' ho60 (Kd.R_lt (rK HO311))) (below_size bS)); have n7_ := Aside0.mk (blk_below (g := gb283) (o := .cells #[.bool false, .slice Ao25 y280.length co25] 25 (0, 0)) (bK BK283) hb); have n8_ := Aside0.mk (blk_below (g := gb287) (o := .cells #[.bool true, .slice Ao30 y284.length co30] 25 (0, 0)) (bK BK287) hb); have n9_ := Aside0.mk (blk_below (g := gb291) (o := .cells #[.bool false, .slice Ao36 y288.length co36] 25 (0, 0)) (bK BK291) hb); have n10_ := Aside0.mk (below_step bS hb); have mHC_ := Aside0.mk (below_step (by repeat (first | (with_reducible first | exact HC.out | apply below_alloc | apply pw_below_drewN | apply below_drew1 | refine below_set ?_ GE283.out | refine below_set ?_ GE287.out | refine below_set ?_ GE291.out) | exact HC.out)) hb); clear HO294; clear HO299; clear HO304; clear HO307; clear HO311; clear HO314; clear BK283; clear BK287; clear BK291; (try clear HC); clear HB; have HO294 := n0_; have HO299 := n1_; have HO304 := n2_; have HO307 := n3_; have HO311 := n4_; have HO314 := n5_; have HO317 := n6_; have BK283 := n7_; have BK287 := n8_; have BK291 := n9_; have HB := n10_; have HC := mHC_; clear n0_ n1_ n2_ n3_ n4_ n5_ n6_ n7_ n8_ n9_ n10_; clear hb ho60; obtain ⟨Ao61, co61, eo61⟩ := Kd.R_slice HO317.out; subst eo61; obtain ⟨Ao62, co62, eo62⟩ := Kd.R_slice HO314.out; subst eo62) | ((with_reducible refine gate_callee (f := 10) rfl ?_); refine goesL_ (some 44) rfl rfl Tryd.func10 (by kernel_rfl) rfl #[.slice Ao62 t312.length co62, .agg #[.bool false, .slice Ao61 y315.length co61]] rfl mA ?_; (with_reducible refine (lit_Weight.calls (hG := gK) k _ _ t312 false _ _ y315 t318 t319 _ ?side1 ?side2 ?side3 ?side4 A8.out).mono ?_); (case side1 => exact cK ((Kd.R_reads' HO314.out).2.2)); (case side2 => exact (Kd.R_reads' HO314.out).2.1); (case side3 => exact cK ((Kd.R_reads' HO317.out).2.2)); (case side4 => exact (Kd.R_reads' HO317.out).2.1); rintro e w63 ⟨rfl, hb⟩; refine ⟨_, rfl, ?_⟩; have n0_ := Aside0.mk (Kd.R_below (rK HO294) hb); have n1_ := Aside0.mk (Kd.R_below (rK HO299) hb); have n2_ := Aside0.mk (Kd.R_below (rK HO304) hb); have n3_ := Aside0.mk (Kd.N_below (nK HO307) hb); have n4_ := Aside0.mk (Kd.R_below (rK HO311) hb); have n5_ := Aside0.mk (Kd.R_below (rK HO314) hb); have n6_ := Aside0.mk (Kd.R_below (rK HO317) hb); have n7_ := Aside0.mk (blk_below (g := gb283) (o := .cells #[.bool false, .slice Ao25 y280.length co25] 25 (0, 0)) (bK BK283) hb); have n8_ := Aside0.mk (blk_below (g := gb287) (o := .cells #[.bool true, .slice Ao30 y284.length co30] 25 (0, 0)) (bK BK287) hb); have n9_ := Aside0.mk (blk_below (g := gb291) (o := .cells #[.bool false, .slice Ao36 y288.length co36] 25 (0, 0)) (bK BK291) hb); have n10_ := Aside0.mk (below_step bS hb); have mHC_ := Aside0.mk (below_step (by repeat (first | (with_reducible first | exact HC.out | apply below_alloc | apply pw_below_drewN | apply below_drew1 | refine below_set ?_ GE283.out | refine below_set ?_ GE287.out | refine below_set ?_ GE291.out) | exact HC.out)) hb); clear HO294; clear HO299; clear HO304; clear HO307; clear HO311; clear HO314; clear HO317; clear BK283; clear BK287; clear BK291; (try clear HC); clear HB; have HO294 := n0_; have HO299 := n1_; have HO304 := n2_; have HO307 := n3_; have HO311 := n4_; have HO314 := n5_; have HO317 := n6_; have BK283 := n7_; have BK287 := n8_; have BK291 := n9_; have HB := n10_; have HC := mHC_; clear n0_ n1_ n2_ n3_ n4_ n5_ n6_ n7_ n8_ n9_ n10_; (try clear hb); (try clear hb2); (try clear hk); (try clear hi)))
        have n0_ := Aside0.mk (Kd.R_drew HO294.out)
        have n1_ := Aside0.mk (Kd.R_drew HO299.out)
        have n2_ := Aside0.mk (Kd.R_drew HO304.out)
        have n3_ := Aside0.mk (Kd.N_drew HO307.out)
        have n4_ := Aside0.mk (Kd.R_drew HO311.out)
        have n5_ := Aside0.mk (Kd.R_drew HO314.out)
        have n6_ := Aside0.mk (Kd.R_drew HO317.out)
        have n7_ := Aside0.mk (blk_drew BK283.out)
        have n8_ := Aside0.mk (blk_drew BK287.out)
        have n9_ := Aside0.mk (blk_drew BK291.out)
        have n10_ := Aside0.mk (below_drew1 HB.out)
        have mHC_ := Aside0.mk (below_drew1 HC.out)
        clear HO294 HO299 HO304 HO307 HO311 HO314 HO317 BK283 BK287 BK291
        (try clear HC)
        clear HB
        have HO294 := n0_
        have HO299 := n1_
        have HO304 := n2_
        have HO307 := n3_
        have HO311 := n4_
        have HO314 := n5_
        have HO317 := n6_
        have BK283 := n7_
        have BK287 := n8_
        have BK291 := n9_
        have HB := n10_
        have HC := mHC_
        clear n0_ n1_ n2_ n3_ n4_ n5_ n6_ n7_ n8_ n9_ n10_
        refine start_ (n := 37) (S := fun w' => w'.cell? ⟨gb283, 0, none⟩ = some (.bool false) ∧ w'.cell? ⟨gb283, 1, none⟩ = some (.slice Ao25 y280.length co25)) (ds := []) #[false, false, false, false, false, false, false, false, false, false, false, false, false, false, false, false, false, false, false, false, false, false, false, false, false, false, false, false, false, false, false, false, false, false, false, false, false] (by kernel_rfl) rfl rfl ⟨(blk_cell BK283.out 0).trans rfl, (blk_cell BK283.out 1).trans rfl⟩ (fun hHeld => ?_); refine with_tabW quaerelaw7_awake.tab8 quaerelaw7_awake.bits8 (fun HT_ HW_ => ?_)
        generalize w63.drew = w64 at HO294 HO299 HO304 HO307 HO311 HO314 HO317 BK283 BK287 BK291 HB HC hHeld ⊢
        refine pure_ (i := 0) (N := some 47) (v := ?_) (a' := ?_) #[true, false, false, false, false, false, false, false, false, false, false, false, false, false, false, false, false, false, false, false, false, false, false, false, false, false, false, false, false, false, false, false, false, false, false, false, false] rfl rfl (any_of HT_.out (by kernel_rfl)) (fun _ _ _ h => h) (Or.inl ⟨by rfl, ?_⟩) ?_ ?_
        rotate_left
        ·intro w'
         go_simp
         with_reducible rfl
        rotate_left
        ·simp only [Act.put, List.setIfInBounds_toArray, List.set_cons_zero, List.set_cons_succ, i64_w, i32_w]
         rfl
        refine pure_ (i := 1) (N := some 48) (v := ?_) (a' := ?_) #[true, true, false, false, false, false, false, false, false, false, false, false, false, false, false, false, false, false, false, false, false, false, false, false, false, false, false, false, false, false, false, false, false, false, false, false, false] rfl rfl (any_of HT_.out (by kernel_rfl)) (fun _ _ _ h => h) (Or.inl ⟨by rfl, ?_⟩) ?_ ?_
        rotate_left
        ·intro w'
         go_simp
         with_reducible rfl
        rotate_left
        ·simp only [Act.put, List.setIfInBounds_toArray, List.set_cons_zero, List.set_cons_succ, i64_w, i32_w]
         rfl
        refine pure_ (i := 2) (N := some 49) (v := ?_) (a' := ?_) #[true, true, true, false, false, false, false, false, false, false, false, false, false, false, false, false, false, false, false, false, false, false, false, false, false, false, false, false, false, false, false, false, false, false, false, false, false] rfl rfl (any_of HT_.out (by kernel_rfl)) (fun _ _ _ h => h) (Or.inl ⟨by rfl, ?_⟩) ?_ ?_
        rotate_left
        ·intro w'
         go_simp
         with_reducible rfl
        rotate_left
        ·simp only [Act.put, List.setIfInBounds_toArray, List.set_cons_zero, List.set_cons_succ, i64_w, i32_w]
         rfl
        refine pure_ (i := 3) (N := some 50) (v := ?_) (a' := ?_) #[true, true, true, true, false, false, false, false, false, false, false, false, false, false, false, false, false, false, false, false, false, false, false, false, false, false, false, false, false, false, false, false, false, false, false, false, false] rfl rfl (any_of HT_.out (by kernel_rfl)) (fun _ _ _ h => h) (Or.inl ⟨by rfl, ?_⟩) ?_ ?_
        rotate_left
        ·intro w'
         go_simp
         with_reducible rfl
        rotate_left
        ·simp only [Act.put, List.setIfInBounds_toArray, List.set_cons_zero, List.set_cons_succ, i64_w, i32_w]
         rfl
        refine one_ (i := 4) (N := some 51) #[true, true, true, true, true, false, false, false, false, false, false, false, false, false, false, false, false, false, false, false, false, false, false, false, false, false, false, false, false, false, false, false, false, false, false, false, false] rfl rfl (one_of HT_.out (by kernel_rfl)) (by decide) (fun K hK => ?_)
        refine goes_ Tryd.func16 (by kernel_rfl) rfl #[.int .i64 t296] (by rfl) rfl rfl mA ?_
        with_reducible refine (quaerelaw0_Num.calls t296 t320 _ A10.out).mono ?_
        rintro e w' ⟨rfl, ⟨nd, rfl⟩⟩
        refine ⟨_, rfl, ?_⟩
        refine hK.out _ _ ⟨(blk_cell BK283.out 0).trans rfl, (blk_cell BK283.out 1).trans rfl⟩ (fun hHeld => ?_)
        clear hK K
        refine norm_ (a' := ?_) ?_ ?_
        rotate_left
        ·show Act.put _ (some 51) _ = _
         simp only [Act.put, List.setIfInBounds_toArray, List.set_cons_zero, List.set_cons_succ, i64_w, i32_w]
         rfl
        refine pure_ (i := 5) (N := some 52) (v := ?_) (a' := ?_) #[true, true, true, true, true, true, false, false, false, false, false, false, false, false, false, false, false, false, false, false, false, false, false, false, false, false, false, false, false, false, false, false, false, false, false, false, false] rfl rfl (any_of HT_.out (by kernel_rfl)) (fun _ _ _ h => h) (Or.inl ⟨by rfl, ?_⟩) ?_ ?_
        rotate_left
        ·intro w'
         go_simp
         with_reducible rfl
        rotate_left
        ·simp only [Act.put, List.setIfInBounds_toArray, List.set_cons_zero, List.set_cons_succ, i64_w, i32_w]
         rfl
        refine pure_ (i := 6) (N := some 53) (v := ?_) (a' := ?_) #[true, true, true, true, true, true, true, false, false, false, false, false, false, false, false, false, false, false, false, false, false, false, false, false, false, false, false, false, false, false, false, false, false, false, false, false, false] rfl rfl (any_of HT_.out (by kernel_rfl)) (fun _ _ _ h => h) (Or.inl ⟨by rfl, ?_⟩) ?_ ?_
        rotate_left
        ·intro w'
         go_simp
         with_reducible rfl
        rotate_left
        ·simp only [Act.put, List.setIfInBounds_toArray, List.set_cons_zero, List.set_cons_succ, i64_w, i32_w]
         rfl
        refine pure_ (i := 7) (N := some 54) (v := ?_) (a' := ?_) #[true, true, true, true, true, true, true, true, false, false, false, false, false, false, false, false, false, false, false, false, false, false, false, false, false, false, false, false, false, false, false, false, false, false, false, false, false] rfl rfl (any_of HT_.out (by kernel_rfl)) (fun _ _ _ h => h) (Or.inl ⟨by rfl, ?_⟩) ?_ ?_
        rotate_left
        ·intro w'
         go_simp
         with_reducible rfl
        rotate_left
        ·simp only [Act.put, List.setIfInBounds_toArray, List.set_cons_zero, List.set_cons_succ, i64_w, i32_w]
         rfl
        refine pure_ (i := 8) (N := some 55) (v := ?_) (a' := ?_) #[true, true, true, true, true, true, true, true, true, false, false, false, false, false, false, false, false, false, false, false, false, false, false, false, false, false, false, false, false, false, false, false, false, false, false, false, false] rfl rfl (any_of HT_.out (by kernel_rfl)) (fun _ _ _ h => h) (Or.inl ⟨by rfl, ?_⟩) ?_ ?_
        rotate_left
        ·intro w'
         go_simp
         with_reducible rfl
        rotate_left
        ·simp only [Act.put, List.setIfInBounds_toArray, List.set_cons_zero, List.set_cons_succ, i64_w, i32_w]
         rfl
        refine pure_ (i := 9) (N := some 56) (v := ?_) (a' := ?_) #[true, true, true, true, true, true, true, true, true, true, false, false, false, false, false, false, false, false, false, false, false, false, false, false, false, false, false, false, false, false, false, false, false, false, false, false, false] rfl rfl (any_of HT_.out (by kernel_rfl)) (fun _ _ _ h => h) (Or.inl ⟨by rfl, ?_⟩) ?_ ?_
        rotate_left
        ·intro w'
         go_simp
         with_reducible rfl
        rotate_left
        ·simp only [Act.put, List.setIfInBounds_toArray, List.set_cons_zero, List.set_cons_succ, i64_w, i32_w]
         rfl
        refine pure_ (i := 10) (N := some 57) (v := ?_) (a' := ?_) #[true, true, true, true, true, true, true, true, true, true, true, false, false, false, false, false, false, false, false, false, false, false, false, false, false, false, false, false, false, false, false, false, false, false, false, false, false] rfl rfl (any_of HT_.out (by kernel_rfl)) (fun _ _ _ h => h) (Or.inl ⟨by rfl, ?_⟩) ?_ ?_
        rotate_left
        ·intro w'
         go_simp
         with_reducible rfl
        rotate_left
        ·simp only [Act.put, List.setIfInBounds_toArray, List.set_cons_zero, List.set_cons_succ, i64_w, i32_w]
         rfl
        refine pure_ (i := 11) (N := some 58) (v := ?_) (a' := ?_) #[true, true, true, true, true, true, true, true, true, true, true, true, false, false, false, false, false, false, false, false, false, false, false, false, false, false, false, false, false, false, false, false, false, false, false, false, false] rfl rfl (any_of HT_.out (by kernel_rfl)) (fun _ _ _ h => h) (Or.inl ⟨by rfl, ?_⟩) ?_ ?_
        rotate_left
        ·intro w'
         go_simp
         with_reducible rfl
        rotate_left
        ·simp only [Act.put, List.setIfInBounds_toArray, List.set_cons_zero, List.set_cons_succ, i64_w, i32_w]
         rfl
        refine pure_ (i := 12) (N := some 59) (v := ?_) (a' := ?_) #[true, true, true, true, true, true, true, true, true, true, true, true, true, false, false, false, false, false, false, false, false, false, false, false, false, false, false, false, false, false, false, false, false, false, false, false, false] rfl rfl (any_of HT_.out (by kernel_rfl)) (fun _ _ _ h => h) (Or.inl ⟨by rfl, ?_⟩) ?_ ?_
        rotate_left
        ·intro w'
         go_simp
         with_reducible rfl
        rotate_left
        ·simp only [Act.put, List.setIfInBounds_toArray, List.set_cons_zero, List.set_cons_succ, i64_w, i32_w]
         rfl
        refine one_ (i := 13) (N := some 60) #[true, true, true, true, true, true, true, true, true, true, true, true, true, true, false, false, false, false, false, false, false, false, false, false, false, false, false, false, false, false, false, false, false, false, false, false, false] rfl rfl (one_of HT_.out (by kernel_rfl)) (by decide) (fun K hK => ?_)
        refine goes_ Tryd.func16 (by kernel_rfl) rfl #[.int .i64 t301] (by rfl) rfl rfl mA ?_
        with_reducible refine (quaerelaw0_Num.calls t301 t321 _ A13.out).mono ?_
        rintro e w' ⟨rfl, ⟨nd, rfl⟩⟩
        refine ⟨_, rfl, ?_⟩
        refine hK.out _ _ ⟨(blk_cell BK283.out 0).trans rfl, (blk_cell BK283.out 1).trans rfl⟩ (fun hHeld => ?_)
        clear hK K
        refine norm_ (a' := ?_) ?_ ?_
        rotate_left
        ·show Act.put _ (some 60) _ = _
         simp only [Act.put, List.setIfInBounds_toArray, List.set_cons_zero, List.set_cons_succ, i64_w, i32_w]
         rfl
        refine pure_ (i := 14) (N := some 61) (v := ?_) (a' := ?_) #[true, true, true, true, true, true, true, true, true, true, true, true, true, true, true, false, false, false, false, false, false, false, false, false, false, false, false, false, false, false, false, false, false, false, false, false, false] rfl rfl (any_of HT_.out (by kernel_rfl)) (fun _ _ _ h => h) (Or.inl ⟨by rfl, ?_⟩) ?_ ?_
        rotate_left
        ·intro w'
         go_simp
         with_reducible rfl
        rotate_left
        ·simp only [Act.put, List.setIfInBounds_toArray, List.set_cons_zero, List.set_cons_succ, i64_w, i32_w]
         rfl
        refine pure_ (i := 15) (N := some 62) (v := ?_) (a' := ?_) #[true, true, true, true, true, true, true, true, true, true, true, true, true, true, true, true, false, false, false, false, false, false, false, false, false, false, false, false, false, false, false, false, false, false, false, false, false] rfl rfl (any_of HT_.out (by kernel_rfl)) (fun _ _ _ h => h) (Or.inl ⟨by rfl, ?_⟩) ?_ ?_
        rotate_left
        ·intro w'
         go_simp
         with_reducible rfl
        rotate_left
        ·simp only [Act.put, List.setIfInBounds_toArray, List.set_cons_zero, List.set_cons_succ, i64_w, i32_w]
         rfl
        refine pure_ (i := 16) (N := some 63) (v := ?_) (a' := ?_) #[true, true, true, true, true, true, true, true, true, true, true, true, true, true, true, true, true, false, false, false, false, false, false, false, false, false, false, false, false, false, false, false, false, false, false, false, false] rfl rfl (any_of HT_.out (by kernel_rfl)) (fun _ _ _ h => h) (Or.inl ⟨by rfl, ?_⟩) ?_ ?_
        rotate_left
        ·intro w'
         go_simp
         with_reducible rfl
        rotate_left
        ·simp only [Act.put, List.setIfInBounds_toArray, List.set_cons_zero, List.set_cons_succ, i64_w, i32_w]
         rfl
        refine pure_ (i := 17) (N := some 64) (v := ?_) (a' := ?_) #[true, true, true, true, true, true, true, true, true, true, true, true, true, true, true, true, true, true, false, false, false, false, false, false, false, false, false, false, false, false, false, false, false, false, false, false, false] rfl rfl (any_of HT_.out (by kernel_rfl)) (fun _ _ _ h => h) (Or.inl ⟨by rfl, ?_⟩) ?_ ?_
        rotate_left
        ·intro w'
         go_simp
         with_reducible rfl
        rotate_left
        ·simp only [Act.put, List.setIfInBounds_toArray, List.set_cons_zero, List.set_cons_succ, i64_w, i32_w]
         rfl
        refine one_ (i := 18) (N := some 65) #[true, true, true, true, true, true, true, true, true, true, true, true, true, true, true, true, true, true, true, false, false, false, false, false, false, false, false, false, false, false, false, false, false, false, false, false, false] rfl rfl (one_of HT_.out (by kernel_rfl)) (by decide) (fun K hK => ?_)
        refine Kd.R_lit_step (Kd.int .i64) _ 3 ?hg (N := 65) ?hd (xs := ([2] : List Int)) (inner := [.int .i64 2]) (ok := fun _ => True) (okp := fun _ => True) ?hr ?hp (fun _ hk => hk) trivial (Below.refl _ _) (Nat.le_refl _) (by simp) ?_; (case hd => rfl); (case hg => rfl); (case hr => first | (go_simp; done) | (go_simp; rfl)); (case hp => exact (Reps.one (show Kd.M (Kd.int .i64) _ _ _ 2 [.int .i64 2] from rfl) (Reps.none _ _)))
        intro v323 w65 ho66 hb hg_ hnew_
        clear hg_ hnew_
        (first | rw [← Ny322.out] at ho66 | (simp only [Int.reduceToNat] at ho66; rw [← Ny322.out] at ho66))
        have n0_ := Aside0.mk (Kd.R_below (rK HO294) hb)
        have n1_ := Aside0.mk (Kd.R_below (rK HO299) hb)
        have n2_ := Aside0.mk (Kd.R_below (rK HO304) hb)
        have n3_ := Aside0.mk (Kd.N_elder' (nK HO307) (Kd.R_base ho66) hb)
        have n4_ := Aside0.mk (Kd.R_elder' (rK HO311) (Kd.R_base ho66) hb)
        have n5_ := Aside0.mk (Kd.R_below (rK HO314) hb)
        have n6_ := Aside0.mk (Kd.R_elder' (rK HO317) (Kd.R_base ho66) hb)
        have n7_ := Aside0.mk (Kd.R_lower (Kd.R_new' (Kd.R_new' ho66 (Kd.R_lt (rK HO311))) (Kd.R_lt (rK HO317))) (below_size bS))
        have n8_ := Aside0.mk (blk_below (g := gb283) (o := .cells #[.bool false, .slice Ao25 y280.length co25] 25 (0, 0)) (bK BK283) hb)
        have n9_ := Aside0.mk (blk_below (g := gb287) (o := .cells #[.bool true, .slice Ao30 y284.length co30] 25 (0, 0)) (bK BK287) hb)
        have n10_ := Aside0.mk (blk_below (g := gb291) (o := .cells #[.bool false, .slice Ao36 y288.length co36] 25 (0, 0)) (bK BK291) hb)
        have n11_ := Aside0.mk (below_step bS hb)
        have mHC_ := Aside0.mk (below_step (by repeat (first | (with_reducible first | exact HC.out | apply below_alloc | apply pw_below_drewN | apply below_drew1 | refine below_set ?_ GE283.out | refine below_set ?_ GE287.out | refine below_set ?_ GE291.out) | exact HC.out)) hb)
        clear HO294 HO299 HO304 HO307 HO311 HO314 HO317 BK283 BK287 BK291
        (try clear HC)
        clear HB
        have HO294 := n0_
        have HO299 := n1_
        have HO304 := n2_
        have HO307 := n3_
        have HO311 := n4_
        have HO314 := n5_
        have HO317 := n6_
        have HO324 := n7_
        have BK283 := n8_
        have BK287 := n9_
        have BK291 := n10_
        have HB := n11_
        have HC := mHC_
        clear n0_ n1_ n2_ n3_ n4_ n5_ n6_ n7_ n8_ n9_ n10_ n11_ hb ho66
        obtain ⟨Ao67, co67, eo67⟩ := Kd.R_slice HO311.out
        (first | subst eo67 | (injection eo67 with f1_ f2_ f3_; have f4_ := f1_.symm; have f5_ := f3_.symm; clear f1_ f2_ f3_; subst f4_; subst f5_))
        obtain ⟨Ao68, co68, eo68⟩ := Kd.R_slice HO324.out
        (first | subst eo68 | (injection eo68 with f1_ f2_ f3_; have f4_ := f1_.symm; have f5_ := f3_.symm; clear f1_ f2_ f3_; subst f4_; subst f5_))
        refine hK.out _ _ ⟨(blk_cell BK283.out 0).trans rfl, (blk_cell BK283.out 1).trans rfl⟩ (fun hHeld => ?_)
        clear hK K
        refine norm_ (a' := ?_) ?_ ?_
        rotate_left
        ·show Act.put _ (some 65) _ = _
         simp only [Act.put, List.setIfInBounds_toArray, List.set_cons_zero, List.set_cons_succ, i64_w, i32_w]
         rfl
        refine one_ (i := 19) (N := some 66) #[true, true, true, true, true, true, true, true, true, true, true, true, true, true, true, true, true, true, true, true, false, false, false, false, false, false, false, false, false, false, false, false, false, false, false, false, false] rfl rfl (one_of HT_.out (by kernel_rfl)) (by decide) (fun K hK => ?_)
        refine goes_ Tryd.func21 (by kernel_rfl) rfl #[.slice Ao67 t308.length co67, .slice Ao68 y322.length co68] (by rfl) rfl rfl mA ?_
        with_reducible refine (quaerelaw0_SameInts.calls k _ _ t308 _ _ y322 true _ ?side1 ?side2 ?side3 ?side4 A15.out).mono ?_
        (case side1 => exact cK ((Kd.R_reads' HO311.out).2.2))
        (case side2 => exact (Kd.R_reads' HO311.out).2.1)
        (case side3 => exact cK ((Kd.R_reads' HO324.out).2.2))
        (case side4 => exact (Kd.R_reads' HO324.out).2.1)
        rintro e w' ⟨rfl, ⟨nd, rfl⟩⟩
        refine ⟨_, rfl, ?_⟩
        refine hK.out _ _ ⟨(blk_cell BK283.out 0).trans rfl, (blk_cell BK283.out 1).trans rfl⟩ (fun hHeld => ?_)
        clear hK K
        refine norm_ (a' := ?_) ?_ ?_
        rotate_left
        ·show Act.put _ (some 66) _ = _
         simp only [Act.put, List.setIfInBounds_toArray, List.set_cons_zero, List.set_cons_succ, i64_w, i32_w]
         rfl
        refine pure_ (i := 20) (N := some 67) (v := ?_) (a' := ?_) #[true, true, true, true, true, true, true, true, true, true, true, true, true, true, true, true, true, true, true, true, true, false, false, false, false, false, false, false, false, false, false, false, false, false, false, false, false] rfl rfl (any_of HT_.out (by kernel_rfl)) (fun _ _ _ h => h) (Or.inl ⟨by rfl, ?_⟩) ?_ ?_
        rotate_left
        ·intro w'
         go_simp
         with_reducible rfl
        rotate_left
        ·simp only [Act.put, List.setIfInBounds_toArray, List.set_cons_zero, List.set_cons_succ, i64_w, i32_w]
         rfl
        refine pure_ (i := 21) (N := some 68) (v := ?_) (a' := ?_) #[true, true, true, true, true, true, true, true, true, true, true, true, true, true, true, true, true, true, true, true, true, true, false, false, false, false, false, false, false, false, false, false, false, false, false, false, false] rfl rfl (any_of HT_.out (by kernel_rfl)) (fun _ _ _ h => h) (Or.inl ⟨by rfl, ?_⟩) ?_ ?_
        rotate_left
        ·intro w'
         go_simp
         with_reducible rfl
        rotate_left
        ·simp only [Act.put, List.setIfInBounds_toArray, List.set_cons_zero, List.set_cons_succ, i64_w, i32_w]
         rfl
        refine pure_ (i := 22) (N := some 69) (v := ?_) (a' := ?_) #[true, true, true, true, true, true, true, true, true, true, true, true, true, true, true, true, true, true, true, true, true, true, true, false, false, false, false, false, false, false, false, false, false, false, false, false, false] rfl rfl (any_of HT_.out (by kernel_rfl)) (fun _ _ _ h => h) (Or.inl ⟨by rfl, ?_⟩) ?_ ?_
        rotate_left
        ·intro w'
         go_simp
         with_reducible rfl
        rotate_left
        ·simp only [Act.put, List.setIfInBounds_toArray, List.set_cons_zero, List.set_cons_succ, i64_w, i32_w]
         rfl
        refine one_ (i := 23) (N := some 70) #[true, true, true, true, true, true, true, true, true, true, true, true, true, true, true, true, true, true, true, true, true, true, true, true, false, false, false, false, false, false, false, false, false, false, false, false, false] rfl rfl (one_of HT_.out (by kernel_rfl)) (by decide) (fun K hK => ?_)
        refine goes_ Tryd.func16 (by kernel_rfl) rfl #[.int .i64 t309] (by rfl) rfl rfl mA ?_
        with_reducible refine (quaerelaw0_Num.calls t309 t326 _ A17.out).mono ?_
        rintro e w' ⟨rfl, ⟨nd, rfl⟩⟩
        refine ⟨_, rfl, ?_⟩
        refine hK.out _ _ ⟨(blk_cell BK283.out 0).trans rfl, (blk_cell BK283.out 1).trans rfl⟩ (fun hHeld => ?_)
        clear hK K
        refine norm_ (a' := ?_) ?_ ?_
        rotate_left
        ·show Act.put _ (some 70) _ = _
         simp only [Act.put, List.setIfInBounds_toArray, List.set_cons_zero, List.set_cons_succ, i64_w, i32_w]
         rfl
        refine pure_ (i := 24) (N := some 71) (v := ?_) (a' := ?_) #[true, true, true, true, true, true, true, true, true, true, true, true, true, true, true, true, true, true, true, true, true, true, true, true, true, false, false, false, false, false, false, false, false, false, false, false, false] rfl rfl (any_of HT_.out (by kernel_rfl)) (fun _ _ _ h => h) (Or.inl ⟨by rfl, ?_⟩) ?_ ?_
        rotate_left
        ·intro w'
         go_simp
         with_reducible rfl
        rotate_left
        ·simp only [Act.put, List.setIfInBounds_toArray, List.set_cons_zero, List.set_cons_succ, i64_w, i32_w]
         rfl
        refine pure_ (i := 25) (N := some 72) (v := ?_) (a' := ?_) #[true, true, true, true, true, true, true, true, true, true, true, true, true, true, true, true, true, true, true, true, true, true, true, true, true, true, false, false, false, false, false, false, false, false, false, false, false] rfl rfl (any_of HT_.out (by kernel_rfl)) (fun _ _ _ h => h) (Or.inl ⟨by rfl, ?_⟩) ?_ ?_
        rotate_left
        ·intro w'
         go_simp
         with_reducible rfl
        rotate_left
        ·simp only [Act.put, List.setIfInBounds_toArray, List.set_cons_zero, List.set_cons_succ, i64_w, i32_w]
         rfl
        refine pure_ (i := 26) (N := some 73) (v := ?_) (a' := ?_) #[true, true, true, true, true, true, true, true, true, true, true, true, true, true, true, true, true, true, true, true, true, true, true, true, true, true, true, false, false, false, false, false, false, false, false, false, false] rfl rfl (any_of HT_.out (by kernel_rfl)) (fun _ _ _ h => h) (Or.inl ⟨by rfl, ?_⟩) ?_ ?_
        rotate_left
        ·intro w'
         go_simp
         with_reducible rfl
        rotate_left
        ·simp only [Act.put, List.setIfInBounds_toArray, List.set_cons_zero, List.set_cons_succ, i64_w, i32_w]
         rfl
        refine pure_ (i := 27) (N := some 74) (v := ?_) (a' := ?_) #[true, true, true, true, true, true, true, true, true, true, true, true, true, true, true, true, true, true, true, true, true, true, true, true, true, true, true, true, false, false, false, false, false, false, false, false, false] rfl rfl (any_of HT_.out (by kernel_rfl)) (fun _ _ _ h => h) (Or.inl ⟨by rfl, ?_⟩) ?_ ?_
        rotate_left
        ·intro w'
         go_simp
         with_reducible rfl
        rotate_left
        ·simp only [Act.put, List.setIfInBounds_toArray, List.set_cons_zero, List.set_cons_succ, i64_w, i32_w]
         rfl
        refine one_ (i := 28) (N := some 75) #[true, true, true, true, true, true, true, true, true, true, true, true, true, true, true, true, true, true, true, true, true, true, true, true, true, true, true, true, true, false, false, false, false, false, false, false, false] rfl rfl (one_of HT_.out (by kernel_rfl)) (by decide) (fun K hK => ?_)
        refine goes_ Tryd.func16 (by kernel_rfl) rfl #[.int .i64 t319] (by rfl) rfl rfl mA ?_
        with_reducible refine (quaerelaw0_Num.calls t319 t327 _ A19.out).mono ?_
        rintro e w' ⟨rfl, ⟨nd, rfl⟩⟩
        refine ⟨_, rfl, ?_⟩
        refine hK.out _ _ ⟨(blk_cell BK283.out 0).trans rfl, (blk_cell BK283.out 1).trans rfl⟩ (fun hHeld => ?_)
        clear hK K
        refine norm_ (a' := ?_) ?_ ?_
        rotate_left
        ·show Act.put _ (some 75) _ = _
         simp only [Act.put, List.setIfInBounds_toArray, List.set_cons_zero, List.set_cons_succ, i64_w, i32_w]
         rfl
        refine pure_ (i := 29) (N := some 76) (v := ?_) (a' := ?_) #[true, true, true, true, true, true, true, true, true, true, true, true, true, true, true, true, true, true, true, true, true, true, true, true, true, true, true, true, true, true, false, false, false, false, false, false, false] rfl rfl (any_of HT_.out (by kernel_rfl)) (fun _ _ _ h => h) (Or.inl ⟨by rfl, ?_⟩) ?_ ?_
        rotate_left
        ·intro w'
         go_simp
         with_reducible rfl
        rotate_left
        ·simp only [Act.put, List.setIfInBounds_toArray, List.set_cons_zero, List.set_cons_succ, i64_w, i32_w]
         rfl
        refine pure_ (i := 30) (N := some 77) (v := ?_) (a' := ?_) #[true, true, true, true, true, true, true, true, true, true, true, true, true, true, true, true, true, true, true, true, true, true, true, true, true, true, true, true, true, true, true, false, false, false, false, false, false] rfl rfl (any_of HT_.out (by kernel_rfl)) (fun _ _ _ h => h) (Or.inl ⟨by rfl, ?_⟩) ?_ ?_
        rotate_left
        ·intro w'
         go_simp
         with_reducible rfl
        rotate_left
        ·simp only [Act.put, List.setIfInBounds_toArray, List.set_cons_zero, List.set_cons_succ, i64_w, i32_w]
         rfl
        refine pure_ (i := 31) (N := some 78) (v := ?_) (a' := ?_) #[true, true, true, true, true, true, true, true, true, true, true, true, true, true, true, true, true, true, true, true, true, true, true, true, true, true, true, true, true, true, true, true, false, false, false, false, false] rfl rfl (any_of HT_.out (by kernel_rfl)) (fun _ _ _ h => h) (Or.inl ⟨by rfl, ?_⟩) ?_ ?_
        rotate_left
        ·intro w'
         go_simp
         with_reducible rfl
        rotate_left
        ·simp only [Act.put, List.setIfInBounds_toArray, List.set_cons_zero, List.set_cons_succ, i64_w, i32_w]
         rfl
        refine take_ (i := 33) (N := some 80) (v := ?_) (a' := ?_) #[true, true, true, true, true, true, true, true, true, true, true, true, true, true, true, true, true, true, true, true, true, true, true, true, true, true, true, true, true, true, true, true, false, true, false, false, false] rfl rfl (take_ofW HT_.out HW_.out (by kernel_rfl)) (fun _ _ _ h => h) (Or.inl ⟨by rfl, ?_⟩) hHeld ?_ ?_
        rotate_left
        ·rintro w' ⟨s0, s1⟩
         go_simp
         with_reducible rfl
        rotate_left
        ·simp only [Act.put, List.setIfInBounds_toArray, List.set_cons_zero, List.set_cons_succ, i64_w, i32_w]
         rfl
        refine one_ (i := 32) (N := some 79) #[true, true, true, true, true, true, true, true, true, true, true, true, true, true, true, true, true, true, true, true, true, true, true, true, true, true, true, true, true, true, true, true, true, true, false, false, false] rfl rfl (one_of HT_.out (by kernel_rfl)) (by decide) (fun K hK => ?_)
        refine goes_ Tryd.func30 (by kernel_rfl) rfl #[] (by rfl) rfl rfl mA ?_
        with_reducible refine (quaerelaw7_words.calls  t328 _ A21.out).mono ?_
        rintro e w69 ⟨v329, rfl, ho0, hb⟩
        refine ⟨_, rfl, ?_⟩
        have n0_ := Aside0.mk (Kd.R_elder' (rK HO294) (Kd.R_base ho0) hb)
        have n1_ := Aside0.mk (Kd.R_elder' (rK HO299) (Kd.R_base ho0) hb)
        have n2_ := Aside0.mk (Kd.R_elder' (rK HO304) (Kd.R_base ho0) hb)
        have n3_ := Aside0.mk (Kd.N_elder' (nK HO307) (Kd.R_base ho0) hb)
        have n4_ := Aside0.mk (Kd.R_below (rK HO311) hb)
        have n5_ := Aside0.mk (Kd.R_elder' (rK HO314) (Kd.R_base ho0) hb)
        have n6_ := Aside0.mk (Kd.R_below (rK HO317) hb)
        have n7_ := Aside0.mk (Kd.R_below (rK HO324) hb)
        have n8_ := Aside0.mk (Kd.R_lower (Kd.R_new' (Kd.R_new' (Kd.R_new' (Kd.R_new' ho0 (Kd.R_lt (rK HO294))) (Kd.R_lt (rK HO299))) (Kd.R_lt (rK HO304))) (Kd.R_lt (rK HO314))) (below_size bS))
        have n9_ := Aside0.mk (blk_below (g := gb283) (o := .cells #[.bool false, .slice Ao25 y280.length co25] 25 (0, 0)) (bK BK283) hb)
        have n10_ := Aside0.mk (blk_below (g := gb287) (o := .cells #[.bool true, .slice Ao30 y284.length co30] 25 (0, 0)) (bK BK287) hb)
        have n11_ := Aside0.mk (blk_below (g := gb291) (o := .cells #[.bool false, .slice Ao36 y288.length co36] 25 (0, 0)) (bK BK291) hb)
        have n12_ := Aside0.mk (below_step bS hb)
        have mHC_ := Aside0.mk (below_step (by repeat (first | (with_reducible first | exact HC.out | apply below_alloc | apply pw_below_drewN | apply below_drew1 | refine below_set ?_ GE283.out | refine below_set ?_ GE287.out | refine below_set ?_ GE291.out) | exact HC.out)) hb)
        clear HO294 HO299 HO304 HO307 HO311 HO314 HO317 HO324 BK283 BK287 BK291
        (try clear HC)
        clear HB
        have HO294 := n0_
        have HO299 := n1_
        have HO304 := n2_
        have HO307 := n3_
        have HO311 := n4_
        have HO314 := n5_
        have HO317 := n6_
        have HO324 := n7_
        have HO330 := n8_
        have BK283 := n9_
        have BK287 := n10_
        have BK291 := n11_
        have HB := n12_
        have HC := mHC_
        clear n0_ n1_ n2_ n3_ n4_ n5_ n6_ n7_ n8_ n9_ n10_ n11_ n12_
        (try clear hb)
        (try clear hb2)
        (try clear hk)
        (try clear hi)
        (try clear ho0)
        obtain ⟨Ao70, co70, eo70⟩ := Kd.R_slice HO330.out
        (first | subst eo70 | (injection eo70 with f1_ f2_ f3_; have f4_ := f1_.symm; have f5_ := f3_.symm; clear f1_ f2_ f3_; subst f4_; subst f5_))
        refine hK.out _ _ ⟨(blk_cell BK283.out 0).trans rfl, (blk_cell BK283.out 1).trans rfl⟩ (fun hHeld => ?_)
        clear hK K
        refine norm_ (a' := ?_) ?_ ?_
        rotate_left
        ·show Act.put _ (some 79) _ = _
         simp only [Act.put, List.setIfInBounds_toArray, List.set_cons_zero, List.set_cons_succ, i64_w, i32_w]
         rfl
        refine one_ (i := 34) (N := some 81) #[true, true, true, true, true, true, true, true, true, true, true, true, true, true, true, true, true, true, true, true, true, true, true, true, true, true, true, true, true, true, true, true, true, true, true, false, false] rfl rfl (one_of HT_.out (by kernel_rfl)) (by decide) (fun K hK => ?_)
        refine goes_ Tryd.func14 (by kernel_rfl) rfl #[.slice Ao70 t328.length co70, .agg #[.bool false, .slice Ao25 y280.length co25]] (by rfl) rfl rfl mA ?_
        with_reducible refine (lit_May.calls (hG := gK) k _ _ t328 false _ _ y280 t331 _ ?side1 ?side2 ?side3 ?side4 A22.out).mono ?_
        (case side1 => exact cK ((Kd.R_reads' HO330.out).2.2))
        (case side2 => exact (Kd.R_reads' HO330.out).2.1)
        (case side3 => exact cK (Kd.C_below hC282 HC.out))
        (case side4 => exact hL282)
        rintro e w71 ⟨rfl, hb⟩
        refine ⟨_, rfl, ?_⟩
        have n0_ := Aside0.mk (Kd.R_below (rK HO294) hb)
        have n1_ := Aside0.mk (Kd.R_below (rK HO299) hb)
        have n2_ := Aside0.mk (Kd.R_below (rK HO304) hb)
        have n3_ := Aside0.mk (Kd.N_below (nK HO307) hb)
        have n4_ := Aside0.mk (Kd.R_below (rK HO311) hb)
        have n5_ := Aside0.mk (Kd.R_below (rK HO314) hb)
        have n6_ := Aside0.mk (Kd.R_below (rK HO317) hb)
        have n7_ := Aside0.mk (Kd.R_below (rK HO324) hb)
        have n8_ := Aside0.mk (Kd.R_below (rK HO330) hb)
        have n9_ := Aside0.mk (blk_below (g := gb283) (o := .cells #[.bool false, .slice Ao25 y280.length co25] 25 (0, 0)) (bK BK283) hb)
        have n10_ := Aside0.mk (blk_below (g := gb287) (o := .cells #[.bool true, .slice Ao30 y284.length co30] 25 (0, 0)) (bK BK287) hb)
        have n11_ := Aside0.mk (blk_below (g := gb291) (o := .cells #[.bool false, .slice Ao36 y288.length co36] 25 (0, 0)) (bK BK291) hb)
        have n12_ := Aside0.mk (below_step bS hb)
        have mHC_ := Aside0.mk (below_step (by repeat (first | (with_reducible first | exact HC.out | apply below_alloc | apply pw_below_drewN | apply below_drew1 | refine below_set ?_ GE283.out | refine below_set ?_ GE287.out | refine below_set ?_ GE291.out) | exact HC.out)) hb)
        clear HO294 HO299 HO304 HO307 HO311 HO314 HO317 HO324 HO330 BK283 BK287 BK291
        (try clear HC)
        clear HB
        have HO294 := n0_
        have HO299 := n1_
        have HO304 := n2_
        have HO307 := n3_
        have HO311 := n4_
        have HO314 := n5_
        have HO317 := n6_
        have HO324 := n7_
        have HO330 := n8_
        have BK283 := n9_
        have BK287 := n10_
        have BK291 := n11_
        have HB := n12_
        have HC := mHC_
        clear n0_ n1_ n2_ n3_ n4_ n5_ n6_ n7_ n8_ n9_ n10_ n11_ n12_
        (try clear hb)
        (try clear hb2)
        (try clear hk)
        (try clear hi)
        refine hK.out _ _ ⟨(blk_cell BK283.out 0).trans rfl, (blk_cell BK283.out 1).trans rfl⟩ (fun hHeld => ?_)
        clear hK K
        refine norm_ (a' := ?_) ?_ ?_
        rotate_left
        ·show Act.put _ (some 81) _ = _
         simp only [Act.put, List.setIfInBounds_toArray, List.set_cons_zero, List.set_cons_succ, i64_w, i32_w]
         rfl
        refine pure_ (i := 35) (N := some 82) (v := ?_) (a' := ?_) #[true, true, true, true, true, true, true, true, true, true, true, true, true, true, true, true, true, true, true, true, true, true, true, true, true, true, true, true, true, true, true, true, true, true, true, true, false] rfl rfl (any_of HT_.out (by kernel_rfl)) (fun _ _ _ h => h) (Or.inl ⟨by rfl, ?_⟩) ?_ ?_
        rotate_left
        ·intro w'
         go_simp
         with_reducible rfl
        rotate_left
        ·simp only [Act.put, List.setIfInBounds_toArray, List.set_cons_zero, List.set_cons_succ, i64_w, i32_w]
         rfl
        refine pure_ (i := 36) (N := some 0) (v := ?_) (a' := ?_) #[true, true, true, true, true, true, true, true, true, true, true, true, true, true, true, true, true, true, true, true, true, true, true, true, true, true, true, true, true, true, true, true, true, true, true, true, true] rfl rfl (any_of HT_.out (by kernel_rfl)) (fun _ _ _ h => h) (Or.inl ⟨by rfl, ?_⟩) ?_ ?_
        rotate_left
        ·intro w'
         go_simp
         with_reducible rfl
        rotate_left
        ·simp only [Act.put, List.setIfInBounds_toArray, List.set_cons_zero, List.set_cons_succ, i64_w, i32_w]
         rfl
        refine done_ (done_of HT_.out (by kernel_rfl)) ?_
        try go_wp2
        go_ret
        exact ⟨eK, bS⟩
       ·rw [if_neg c20] at H
        exact absurd H (by simp)
      ·rw [if_neg c18] at H
       exact absurd H (by simp)
     ·replace c16 := Bool.eq_false_iff.mpr c16
      subst c16
      have H1 : (none) = some r := by rw [if_neg (show ¬ (false = true) by decide)] at H; exact H
      clear H
      have H := H1
      clear H1
      exact absurd H (by simp)
    ·rw [if_neg c14] at H
     exact absurd H (by simp)
   ·rw [if_neg c12] at H
    exact absurd H (by simp)
  ·rw [if_neg c11] at H
   exact absurd H (by simp)
 ·rw [if_neg c9] at H
  exact absurd H (by simp)

end Go.Proofs.YtfnemhkiopgeaaaDoor.PL
