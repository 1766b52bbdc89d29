/- Literals: what the printed functions of package lit, and the reference's, answer. -/
import Derived.Test.YtfnemhkiopgeaaaDoorTopss
import Derived.Test.YtfnemhkiopgeaaaDoorKbos
import Derived.Test.YtfnemhkiopgeaaaDoorRefMore
import Derived.Test.YtfnemhkiopgeaaaDoorRefAtom
import Derived.Test.YtfnemhkiopgeaaaDoorPKx0
import Derived.Test.YtfnemhkiopgeaaaDoorPKx2
import Derived.Test.YtfnemhkiopgeaaaDoorPKx3
import Derived.Test.YtfnemhkiopgeaaaDoorPKx4
import Derived.Test.YtfnemhkiopgeaaaDoorPKx5
import Derived.Test.YtfnemhkiopgeaaaDoorPKx8
import Derived.Test.YtfnemhkiopgeaaaDoorPKx11
import Derived.Test.YtfnemhkiopgeaaaDoorPKx13
import Derived.Test.YtfnemhkiopgeaaaDoorPKx14
namespace Go.Proofs.YtfnemhkiopgeaaaDoor.PK
open Go Go.RowKit Go.Proofs.YtfnemhkiopgeaaaDoorW.PrintWords Go.Proofs.YtfnemhkiopgeaaaDoorW.PrintLast Go.Proofs.YtfnemhkiopgeaaaDoor
set_option linter.unusedVariables false
set_option linter.unusedSimpArgs false
open Classical in
noncomputable def whichL (l : List S58) (b : Bool) (x : List Int) (d : Bool) (y : List Int) : Int := if whichV l x y = 1 ∧ b ≠ d then (if b = true then 2 else 0) else whichV l x y
open Classical in
noncomputable def LitCompareV (l : List S58) (b : Bool) (x : List Int) (d : Bool) (y : List Int) : Int × Int := if Atom l x ∧ Atom l y then (whichL l b x d y, 0) else (0, 700)
open Classical in
noncomputable def LitWeightV (l : List S58) (x : List Int) : Int × Int := if Atom l x then (sumV l x, 0) else (0, 700)
open Classical in
theorem litMay_ev (l : List S58) (b : Bool) (x : List Int) : Ev (fun k => lit_May.f k l b x) (decide (Atom l x)) := by
  unfold lit_May.f
  exact Ev.bind (isAtom_ev x) (Ev.now _)
theorem litWeight_ev (l : List S58) (b : Bool) (x : List Int) : Ev (fun k => lit_Weight.f k l b x) (LitWeightV l x) := by
  classical
  unfold lit_Weight.f LitWeightV
  refine Ev.bind (litMay_ev l b x) ?_
  by_cases h : Atom l x
  · rw [if_pos h]
    have ht := text_atom h
    exact Ev.if_pos (by simpa using h) (Ev.bind (sum_ev ht.1 x (by have := text_len ht; omega) (fun c hc => (text_codes ht c hc).2)) (Ev.now _))
  · rw [if_neg h]
    exact Ev.if_neg (by simpa using h) (Ev.now _)
theorem litCompare_ev (l : List S58) (b : Bool) (x : List Int) (d : Bool) (y : List Int) : Ev (fun k => lit_Compare.f k l b x d y) (LitCompareV l b x d y) := by
  classical
  have jt : Ev (fun k => lit_Compare.j0 k l true b x d y) ((0 : Int), (700 : Int)) := Ev.step (f := fun _ => some ((0 : Int), (700 : Int))) (fun k => by simp only [lit_Compare.j0]; rw [if_pos trivial]) (Ev.now _)
  unfold lit_Compare.f LitCompareV
  refine Ev.bind (litMay_ev l b x) ?_
  by_cases hx : Atom l x
  · refine Ev.if_pos (by simpa using hx) (Ev.bind (litMay_ev l d y) ?_)
    by_cases hy : Atom l y
    · rw [if_pos ⟨hx, hy⟩]
      have e : (!decide (Atom l y)) = false := by simp [hy]
      rw [e]
      refine Ev.step (f := fun k => (order_Compare.f k l x y).bind fun t => if t.1 = 1 then lit_Compare.j1 k t.1 (b == d) b x else lit_Compare.j1 k t.1 true b x) (fun k => ?_) (Ev.bind (compare_ev l x y) ?_)
      · simp only [lit_Compare.j0]
        rw [if_neg (by decide)]
      · have hc : CompareV l x y = (whichV l x y, 0) := if_pos (.inr ⟨hx, hy⟩)
        rw [hc]
        unfold whichL
        have jd : ∀ v : Int, Ev (fun k => lit_Compare.j1 k v true b x) (v, (0 : Int)) := fun v => Ev.step (f := fun _ => some (v, (0 : Int))) (fun k => by simp only [lit_Compare.j1]; rw [if_pos trivial]) (Ev.now _)
        by_cases h1 : whichV l x y = 1
        · refine Ev.if_pos h1 ?_
          by_cases h2 : b = d
          · rw [if_neg (fun h => h.2 h2)]
            have : (b == d) = true := by simpa using h2
            rw [this]
            exact jd _
          · rw [if_pos ⟨h1, h2⟩]
            have : (b == d) = false := by simpa using h2
            rw [this]
            cases b with
            | true =>
              refine Ev.step (f := fun _ => some ((2 : Int), (0 : Int))) (fun k => ?_) (Ev.now _)
              simp only [lit_Compare.j1]
              rw [if_neg (by decide), if_pos trivial]
            | false =>
              refine Ev.step (f := fun _ => some ((0 : Int), (0 : Int))) (fun k => ?_) (Ev.now _)
              simp only [lit_Compare.j1]
              rw [if_neg (by decide), if_neg (by decide)]
        · rw [if_neg (fun h => h1 h.1)]
          exact Ev.if_neg h1 (jd _)
    · rw [if_neg (fun h => hy h.2)]
      have e : (!decide (Atom l y)) = true := by simp [hy]
      rw [e]
      exact jt
  · rw [if_neg (fun h => hx h.1)]
    exact Ev.if_neg (by simpa using hx) jt
/-! the reference's -/
open Classical in
theorem refLitMay_ev (l : List S58) (b : Bool) (x : List Int) : Ev (fun k => quaereref8_LitMay.f k l b x) (decide (Atom l x)) := by
  unfold quaereref8_LitMay.f
  refine Ev.bind (ref_may_ev l) ?_
  by_cases hs : SignOk l
  · exact Ev.if_pos (signB_true.2 hs) (Ev.bind (refIsAtom_ev hs x) (Ev.now _))
  · refine Ev.if_neg (fun h => hs (signB_true.1 h)) (Ev.some_ ?_)
    symm
    rw [decide_eq_false_iff_not]
    exact fun h => hs (text_atom h).1
theorem refWhichL_ev {l : List S58} {x y : List Int} (b d : Bool) (hx : Atom l x) (hy : Atom l y) : Ev (fun k => quaereref8_which.f k l b x d y) (whichL l b x d y) := by
  classical
  unfold quaereref8_which.f whichL
  refine Ev.bind (refWhich_ev (text_atom hx) (text_atom hy)) ?_
  have jd : ∀ v : Int, Ev (fun k => quaereref8_which.j0 k v true b x) v := fun v => Ev.step (f := fun _ => some v) (fun k => by simp only [quaereref8_which.j0]; rw [if_pos trivial]) (Ev.now _)
  by_cases h1 : whichV l x y = 1
  · refine Ev.if_pos h1 ?_
    by_cases h2 : b = d
    · rw [if_neg (fun h => h.2 h2)]
      have : (b == d) = true := by simpa using h2
      rw [this]
      exact jd _
    · rw [if_pos ⟨h1, h2⟩]
      have : (b == d) = false := by simpa using h2
      rw [this]
      cases b with
      | true =>
        refine Ev.step (f := fun _ => some (2 : Int)) (fun k => ?_) (Ev.now _)
        simp only [quaereref8_which.j0]
        rw [if_neg (by decide), if_pos trivial]
      | false =>
        refine Ev.step (f := fun _ => some (0 : Int)) (fun k => ?_) (Ev.now _)
        simp only [quaereref8_which.j0]
        rw [if_neg (by decide), if_neg (by decide)]
  · rw [if_neg (fun h => h1 h.1)]
    exact Ev.if_neg h1 (jd _)
theorem refLitWeight_ev (l : List S58) (b : Bool) (x : List Int) : Ev (fun k => quaereref8_LitWeight.f k l b x) (LitWeightV l x) := by
  classical
  unfold quaereref8_LitWeight.f LitWeightV
  refine Ev.bind (refLitMay_ev l b x) ?_
  by_cases h : Atom l x
  · rw [if_pos h]
    have ht := text_atom h
    exact Ev.if_pos (by simpa using h) (Ev.bind (heavy_ev ht.1 x (by have := text_len ht; omega) (fun c hc => (text_codes ht c hc).2)) (Ev.now _))
  · rw [if_neg h]
    exact Ev.if_neg (by simpa using h) (Ev.now _)
theorem refLitCompare_ev (l : List S58) (b : Bool) (x : List Int) (d : Bool) (y : List Int) : Ev (fun k => quaereref8_LitCompare.f k l b x d y) (LitCompareV l b x d y) := by
  classical
  unfold quaereref8_LitCompare.f LitCompareV
  refine Ev.bind (refLitMay_ev l b x) ?_
  by_cases hx : Atom l x
  · refine Ev.if_pos (by simpa using hx) (Ev.bind (refLitMay_ev l d y) ?_)
    by_cases hy : Atom l y
    · rw [if_pos ⟨hx, hy⟩]
      exact Ev.if_pos (by simpa using hy) (Ev.bind (refWhichL_ev b d hx hy) (Ev.now _))
    · rw [if_neg (fun h => hy h.2)]
      exact Ev.if_neg (by simpa using hy) (Ev.now _)
  · rw [if_neg (fun h => hx h.1)]
    exact Ev.if_neg (by simpa using hx) (Ev.now _)
/-! tops -/
theorem ev_all {α β : Type} {g : α → Nat → Option β} {v : α → β} : ∀ (xs : List α), (∀ x ∈ xs, Ev (g x) (v x)) → ∃ K, ∀ k, K ≤ k → ∀ x ∈ xs, g x k = some (v x) := by
  intro xs
  induction xs with
  | nil => intro _; exact ⟨0, fun k _ x hx => by cases hx⟩
  | cons x xs ih =>
    intro h
    obtain ⟨K, hK⟩ := h x (List.mem_cons_self ..)
    obtain ⟨L, hL⟩ := ih (fun y hy => h y (List.mem_cons_of_mem _ hy))
    refine ⟨max K L, fun k hk y hy => ?_⟩
    rcases List.mem_cons.1 hy with rfl | hy
    · exact hK k (by omega)
    · exact hL k (by omega) y hy
open Classical in
noncomputable def mayL (l : List S58) (x : S25) : Bool := decide (Atom l x.f1)
noncomputable def cmpL (l : List S58) (m x : S25) : Int := whichL l m.f0 m.f1 x.f0 x.f1
noncomputable def TopsV (l : List S58) (ls : List S25) : List Int × Int := topsV (signB l) (mayL l) (cmpL l) ls
theorem tops_ev (l : List S58) (ls : List S25) (hl : ls.length < 17592186044416) : Ev (fun k => lit_Tops.f k l ls) (TopsV l ls) := by
  classical
  obtain ⟨K0, h0⟩ := may_ev l
  obtain ⟨K1, h1⟩ := ev_all (g := fun x k => lit_May.f k l x.f0 x.f1) (v := mayL l) ls (fun x _ => litMay_ev l x.f0 x.f1)
  obtain ⟨K2, h2⟩ := ev_all (g := fun (x : S25 × S25) k => lit_Compare.f k l x.1.f0 x.1.f1 x.2.f0 x.2.f1) (v := fun x => LitCompareV l x.1.f0 x.1.f1 x.2.f0 x.2.f1) (ls.flatMap fun m => ls.map fun x => (m, x)) (fun x _ => litCompare_ev l _ _ _ _)
  refine ⟨max K0 (max K1 K2), fun k hk => ?_⟩
  have m1 : ∀ x ∈ ls, lit_May.f k l x.f0 x.f1 = some (mayL l x) := fun x hx => h1 k (by omega) x hx
  have m2 : ∀ m ∈ ls, ∀ x ∈ ls, lit_Compare.f k l m.f0 m.f1 x.f0 x.f1 = some (LitCompareV l m.f0 m.f1 x.f0 x.f1) := fun m hm x hx => h2 k (by omega) (m, x) (List.mem_flatMap.2 ⟨m, hm, List.mem_map.2 ⟨x, hx, rfl⟩⟩)
  show topsF k l ls = _
  unfold topsF
  have e0 : sign_May.f k l = some (signB l) := h0 k (by omega)
  rw [e0, Option.bind_some, if_pos]
  · congr 1
    unfold TopsV
    have e1 : ∀ x ∈ ls, mayF k l x = mayL l x := fun x hx => by unfold mayF; rw [m1 x hx]; rfl
    refine topsV_congr (fun _ => e1) (fun _ ha x hx y hy => ?_)
    unfold cmpF
    rw [m2 x hx y hy]
    rw [all_congr' e1, List.all_eq_true] at ha
    have ax : Atom l x.f1 := by simpa [mayL] using ha x hx
    have ay : Atom l y.f1 := by simpa [mayL] using ha y hy
    show (LitCompareV l x.f0 x.f1 y.f0 y.f1).1 = cmpL l x y
    unfold LitCompareV
    rw [if_pos ⟨ax, ay⟩]
    rfl
  · exact ⟨hl, fun _ x hx => by rw [m1 x hx]; rfl, fun _ _ m hm x hx => by rw [m2 m hm x hx]; rfl⟩
theorem sameLits_ev (ls : List S25) (hl : ls.length ≤ 1000) (hx : ∀ x ∈ ls, x.f1.length ≤ 9223372036854775807) : Ev (fun k => quaerelaw0_SameLits.f k ls ls) true := by
  have key : ∀ (d i : Nat), ls.length - i = d → i ≤ ls.length → Ev (fun k => quaerelaw0_SameLits.l0 k ls ls (i : Int)) true := by
    classical
    intro d
    induction d with
    | zero =>
      intro i hd hi
      refine Ev.step (f := fun _ => some true) (fun k => ?_) (Ev.now _)
      simp only [quaerelaw0_SameLits.l0]
      rw [if_neg (by omega)]
    | succ d ih =>
      intro i hd hi
      have hlt : i < ls.length := by omega
      have e1 : rd_T25 ls (i : Int) = ls[i] := rd_lit ls i hlt
      refine Ev.step (f := fun k => (quaerelaw0_SameInts.f k (rd_T25 ls (i : Int)).f1 (rd_T25 ls (i : Int)).f1).bind fun t => if t = true then quaerelaw0_SameLits.l0 k ls ls ((i + 1 : Nat) : Int) else some false) (fun k => ?_) (Ev.bind (sameInts_ev _ _ (by rw [e1]; exact hx _ (List.getElem_mem _))) ?_)
      · simp only [quaerelaw0_SameLits.l0]
        rw [if_pos (by omega), if_pos (by omega), if_pos (by omega), if_neg (by simp), wrap_nat i (by omega)]
      · exact Ev.if_pos (by simp) (ih (i + 1) (by omega) (by omega))
  unfold quaerelaw0_SameLits.f
  exact Ev.if_pos rfl (key ls.length 0 rfl (by omega))
theorem copyLits_ev (ls : List S25) (hl : ls.length ≤ 1000) (hx : ∀ x ∈ ls, x.f1.length < 17592186044400) : Ev (fun k => quaerelaw0_CopyLits.f k ls) ls := by
  have key : ∀ (d i : Nat), ls.length - i = d → i ≤ ls.length → Ev (fun k => quaerelaw0_CopyLits.l0 k ls (ls.take i) (i : Int)) ls := by
    intro d
    induction d with
    | zero =>
      intro i hd hi
      refine Ev.step (f := fun _ => some (ls.take i)) (fun k => ?_) (Ev.some_ (List.take_of_length_le (by omega)))
      simp only [quaerelaw0_CopyLits.l0]
      rw [if_neg (by omega)]
    | succ d ih =>
      intro i hd hi
      have hlt : i < ls.length := by omega
      have e1 : rd_T25 ls (i : Int) = ls[i] := rd_lit ls i hlt
      have hx1 := hx ls[i] (List.getElem_mem _)
      have hcp : quaerelaw0_CopyInts.f ls[i].f1 = some ls[i].f1 := by
        unfold quaerelaw0_CopyInts.f
        simp only [Option.bind_some]
        rw [if_pos (by simp; omega)]
        simp
      refine Ev.step (f := fun k => quaerelaw0_CopyLits.l0 k ls (ls.take (i + 1)) ((i + 1 : Nat) : Int)) (fun k => ?_) (ih (i + 1) (by omega) (by omega))
      simp only [quaerelaw0_CopyLits.l0]
      rw [if_pos (by omega), if_pos (by omega), e1, hcp, Option.bind_some, if_pos (by rw [List.length_take]; omega), wrap_nat i (by omega)]
      congr 1
      rw [List.take_add_one, List.getElem?_eq_getElem hlt]
      rfl
  unfold quaerelaw0_CopyLits.f
  exact (key ls.length 0 rfl (by omega)).as_ rfl
end Go.Proofs.YtfnemhkiopgeaaaDoor.PK
