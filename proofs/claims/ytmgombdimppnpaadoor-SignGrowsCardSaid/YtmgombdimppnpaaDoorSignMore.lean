/- Package sign's exported functions, and the reference's: what they answer; what stays true of a signature that grows. -/
import Derived.Test.YtmgombdimppnpaaDoorSign
import Derived.Test.YtmgombdimppnpaaDoorPSx0
import Derived.Test.YtmgombdimppnpaaDoorPSx2
import Derived.Test.YtmgombdimppnpaaDoorPSx3
import Derived.Test.YtmgombdimppnpaaDoorPSx4
import Derived.Test.YtmgombdimppnpaaDoorPSx5
import Derived.Test.YtmgombdimppnpaaDoorPSx6
namespace Go.Proofs.YtmgombdimppnpaaDoor.PS
open Go Go.RowKit Go.Proofs.YtmgombdimppnpaaDoorW.PrintWords Go.Proofs.YtmgombdimppnpaaDoorW.PrintLast Go.Proofs.YtmgombdimppnpaaDoor
set_option linter.unusedVariables false
set_option linter.unusedSimpArgs false

theorem awake_at : quaerelaw1_awake.f 60 = some true := by kernel_rfl
theorem awake_ev : Ev (fun k => quaerelaw1_awake.f k) true := Ev.at_ (fun k => quaerelaw1_awake.mono k) 60 awake_at

noncomputable def FindV (l : List S33) (s : ByteArray) : Int × Int := if signB l = true then (findV l s, 0) else (0, 100)
theorem Find_ev (l : List S33) (s : ByteArray) : Ev (fun k => sign_Find.f k l s) (FindV l s) := by
  unfold sign_Find.f FindV
  refine Ev.bind (may_ev l) ?_
  by_cases h : signB l = true
  · refine Ev.if_pos h (Ev.bind (find_ev l s (by have := (signB_true.1 h).2.1; omega)) (Ev.some_ ?_))
    rw [if_pos h]
  · refine Ev.if_neg h (Ev.some_ ?_)
    rw [if_neg h]
theorem ref_Find_ev (l : List S33) (s : ByteArray) : Ev (fun k => quaereref1_Find.f k l s) (FindV l s) := by
  unfold quaereref1_Find.f FindV
  refine Ev.bind (ref_may_ev l) ?_
  by_cases h : signB l = true
  · refine Ev.if_pos h (Ev.bind (code_ev l s (by have := (signB_true.1 h).2.1; omega)) (Ev.some_ ?_))
    rw [if_pos h]
  · refine Ev.if_neg h (Ev.some_ ?_)
    rw [if_neg h]

noncomputable def AddV (l : List S33) (x : S33) : List S33 × Int :=
  if signB l = true ∧ symB x = true then (if findV l x.f0 ≥ 0 then ([], 101) else if l.length = 20 then ([], 102) else (l ++ [x], 0)) else ([], 100)
theorem Add_ev (l : List S33) (x : S33) : Ev (fun k => sign_Add.f k l x.f0 x.f1 x.f2 x.f3) (AddV l x) := by
  have hj : ∀ b, b = true → Ev (fun k => sign_Add.j0 k l b x.f0 x.f1 x.f2 x.f3) (([] : List S33), (100 : Int)) := fun b hb => Ev.step (f := fun _ => some (([] : List S33), (100 : Int))) (fun k => by simp only [sign_Add.j0]; rw [if_pos hb]) (Ev.now _)
  unfold sign_Add.f AddV
  refine Ev.bind (may_ev l) ?_
  by_cases h : signB l = true
  · have hl := (signB_true.1 h).2.1
    refine Ev.if_pos h (Ev.bind (symMay_ev x) ?_)
    by_cases hx : symB x = true
    · rw [if_pos ⟨h, hx⟩]
      refine Ev.step (f := fun k => (sign_find.f k l x.f0).bind fun t => if t ≥ 0 then some (([] : List S33), (101 : Int)) else if (l.length : Int) = 20 then some (([] : List S33), (102 : Int)) else some (l ++ [x], (0 : Int))) (fun k => ?_) ?_
      · simp only [sign_Add.j0]
        rw [if_neg (by simp [hx])]
        congr 1
        funext t
        simp only [Option.bind_some, List.length_nil, List.nil_append, List.length_singleton]
        rw [if_pos (show 0 + l.length < 3518437208883 by omega), if_pos (show l.length + 1 < 3518437208883 by omega)]
      · refine Ev.bind (find_ev l x.f0 (by omega)) (Ev.of_some ?_)
        by_cases h1 : findV l x.f0 ≥ 0
        · rw [if_pos h1, if_pos h1]
        · rw [if_neg h1, if_neg h1]
          by_cases h2 : l.length = 20
          · rw [if_pos (by omega), if_pos h2]
          · rw [if_neg (by omega), if_neg h2]
    · rw [if_neg (fun a => hx a.2)]
      exact hj _ (by simpa using hx)
  · rw [if_neg (fun a => h a.1)]
    exact Ev.if_neg h (hj true rfl)
theorem ref_Add_ev (l : List S33) (x : S33) : Ev (fun k => quaereref1_Add.f k l x.f0 x.f1 x.f2 x.f3) (AddV l x) := by
  have hj : ∀ b, b = true → Ev (fun k => quaereref1_Add.j0 k l b x.f0 x.f1 x.f2 x.f3) (([] : List S33), (100 : Int)) := fun b hb => Ev.step (f := fun _ => some (([] : List S33), (100 : Int))) (fun k => by simp only [quaereref1_Add.j0]; rw [if_pos hb]) (Ev.now _)
  unfold quaereref1_Add.f AddV
  refine Ev.bind (ref_may_ev l) ?_
  by_cases h : signB l = true
  · have hl := (signB_true.1 h).2.1
    refine Ev.if_pos h (Ev.bind (ref_symMay_ev x) ?_)
    by_cases hx : symB x = true
    · rw [if_pos ⟨h, hx⟩]
      refine Ev.step (f := fun k => (quaereref1_Code.f k l x.f0).bind fun t => if t ≥ 0 then some (([] : List S33), (101 : Int)) else if (l.length : Int) ≥ 20 then some (([] : List S33), (102 : Int)) else some (l ++ [x], (0 : Int))) (fun k => ?_) ?_
      · simp only [quaereref1_Add.j0]
        rw [if_neg (by simp [hx])]
        congr 1
        funext t
        simp only [Option.bind_some, List.length_nil, List.nil_append]
        rw [if_pos (show 0 + l.length < 3518437208883 by omega), if_pos (show l.length < 3518437208883 by omega)]
      · refine Ev.bind (code_ev l x.f0 (by omega)) (Ev.of_some ?_)
        by_cases h1 : findV l x.f0 ≥ 0
        · rw [if_pos h1, if_pos h1]
        · rw [if_neg h1, if_neg h1]
          by_cases h2 : l.length = 20
          · rw [if_pos (by omega), if_pos h2]
          · rw [if_neg (by omega), if_neg h2]
    · rw [if_neg (fun a => hx a.2)]
      exact hj _ (by simpa using hx)
  · rw [if_neg (fun a => h a.1)]
    exact Ev.if_neg h (hj true rfl)

/-! the comparison of two rows of symbols -/
theorem sameSyms_loop (l : List S33) (hn : l.length ≤ 9223372036854775806) : ∀ (d i : Nat), l.length - i = d → i ≤ l.length → Ev (fun k => quaerelaw0_SameSyms.l0 k l l (i : Int)) true := by
  intro d
  induction d with
  | zero =>
    intro i hd hi
    refine Ev.step (f := fun _ => some true) (fun k => ?_) (Ev.now _)
    simp only [quaerelaw0_SameSyms.l0]
    rw [if_neg (by omega)]
  | succ d ih =>
    intro i hd hi
    refine Ev.step (f := fun k => quaerelaw0_SameSyms.l0 k l l ((i + 1 : Nat) : Int)) (fun k => ?_) (ih (i + 1) (by omega) (by omega))
    simp only [quaerelaw0_SameSyms.l0]
    rw [if_pos (by omega), if_pos (by omega), if_pos (by omega), if_neg (by simp), wrap_nat i (by omega)]
theorem sameSyms_ev (l : List S33) (hn : l.length ≤ 9223372036854775806) : Ev (fun k => quaerelaw0_SameSyms.f k l l) true := by
  unfold quaerelaw0_SameSyms.f
  exact Ev.if_pos rfl (sameSyms_loop l hn l.length 0 (by omega) (by omega))
theorem copySyms_f (l : List S33) (h : l.length * 40 ≤ 140737488351232) : quaerelaw0_CopySyms.f l = some l := by
  unfold quaerelaw0_CopySyms.f
  simp only [Option.bind_some, List.length_nil, List.nil_append]
  rw [if_pos (by omega)]
end Go.Proofs.YtmgombdimppnpaaDoor.PS
