/- What the tied condition gives: the package-level variable's four cells; a world that meets it. -/
import Derived.Test.YteffiodbflmfkaaDoorRows
import Derived.Test.YteffiodbflmfkaaDoorOpen
import Derived.LaidMore
import Derived.Stop.Joined
namespace Go.Proofs.YteffiodbflmfkaaDoor
open Go Go.ChangeShapes Go.WideShapes Go.ChangeAt Go.RowKit Go.Proofs.YteffiodbflmfkaaDoorW.PrintWords

theorem seatOwn : ownKnob Tryd.prog.godebug = none := by kernel_rfl
theorem seatLaidOut : laidOutB Tryd.prog = true := by kernel_rfl
theorem seatGlob : Tryd.prog.globalNamed "quaere/sign.equals" = some 0 := by kernel_rfl
theorem seatGlobType : (Tryd.prog.globals[0]?).map (·.type) = some 59 := by kernel_rfl
abbrev seatLaid : List (String × DataW Unit) := [("quaere/sign.equals", Rows.laid_quaere_sign_equals)]
theorem door_met (os : Os) (args : Array Value) : laidMetH Tryd.prog seatLaid ((World.doorLaid Tryd.prog 400 os).forCall (fun _ _ => 0) ⟨#[], args, []⟩).memory :=
 laidMetH_of_parts3 (fuel := 8) (laidMet_of_run' 8 (by kernel_rfl) (by kernel_rfl)) (by kernel_rfl) (by kernel_rfl)

theorem datum_int {H : Type} {enc : TypeId × Value → H} {P : Program} {w : World} {base : Nat} {sp : Nat → Bool} {held : Bool} {fuel : Nat} {t : TypeId} {cs : List Value} {n : Int} {p : List MemPlace}
  (ht : P.underlying t = some (.int .i64)) (h : DataW.trod enc P w base sp held fuel t cs = some (.lit (.int .i64 n), p)) : cs = [.int .i64 n] := by
 cases fuel with
 | zero => simp [DataW.trod] at h
 | succ fuel =>
  match cs with
  | [] => simp [DataW.trod, ht] at h
  | c :: r =>
   cases c <;> cases r <;> simp [DataW.trod, ht] at h
   obtain ⟨⟨rfl, _⟩, rfl, _⟩ := h
   rfl
theorem datum_string {H : Type} {enc : TypeId × Value → H} {P : Program} {w : World} {base : Nat} {sp : Nat → Bool} {held : Bool} {fuel : Nat} {t : TypeId} {cs : List Value} {l : List UInt8} {p : List MemPlace}
  (ht : P.underlying t = some .string) (h : DataW.trod enc P w base sp held fuel t cs = some (.lit (.string l), p)) : cs = [.string ⟨l.toArray⟩] := by
 cases fuel with
 | zero => simp [DataW.trod] at h
 | succ fuel =>
  match cs with
  | [] => simp [DataW.trod, ht] at h
  | c :: r =>
   cases c <;> cases r <;> simp [DataW.trod, ht] at h
   rename_i s
   obtain ⟨_, rfl, _⟩ := h
   simp

set_option maxRecDepth 100000 in
theorem glob_of_laid {W : World} (h : laidMetH Tryd.prog seatLaid W) : Glob W := by
 rw [MakeChecks.laidMetH_plain _ _ _ (by kernel_rfl)] at h
 obtain ⟨ps, ⟨g, t, cs, fuel, p, q, hg, ht, hvar, hd, _, _⟩, _, _⟩ := h
 obtain rfl := Option.some.inj (seatGlob.symm.trans hg)
 obtain rfl := Option.some.inj (seatGlobType.symm.trans ht)
 have h0 := World.var?_cell hg hvar 0
 have h1 := World.var?_cell hg hvar 1
 have h2 := World.var?_cell hg hvar 2
 have h3 := World.var?_cell hg hvar 3
 obtain ⟨l⟩ := cs
 cases fuel with
 | zero => simp [DataW.trod] at hd
 | succ fuel =>
  have c33 : Tryd.prog.cellsOf 59 = 4 := by kernel_rfl
  have cS : Tryd.prog.cellsOf 9 = 1 := by kernel_rfl
  have cI : Tryd.prog.cellsOf 3 = 1 := by kernel_rfl
  simp only [DataW.trod, Tryd.underlying59, c33] at hd
  split at hd
  ·rename_i hl
   obtain ⟨c0, c1, c2, c3, rfl⟩ : ∃ c0 c1 c2 c3, l = [c0, c1, c2, c3] := by
    match l, hl with
    | [a, b, c, d], _ => exact ⟨a, b, c, d, rfl⟩
   simp only [Option.map_eq_some_iff, List.mapM_cons, List.mapM_nil, Option.bind_eq_bind, Option.bind_eq_some_iff, Option.pure_def, Option.some.injEq, cS, cI] at hd
   obtain ⟨xs, ⟨y0, e0, _, ⟨y1, e1, _, ⟨y2, e2, _, ⟨y3, e3, _, rfl, rfl⟩, rfl⟩, rfl⟩, rfl⟩, hx⟩ := hd
   simp only [List.map_cons, List.map_nil, Rows.laid_quaere_sign_equals, Prod.mk.injEq, DataW.agg.injEq, List.cons.injEq, and_true] at hx
   obtain ⟨⟨d0, d1, d2, d3⟩, _⟩ := hx
   obtain ⟨y0, z0⟩ := y0
   obtain ⟨y1, z1⟩ := y1
   obtain ⟨y2, z2⟩ := y2
   obtain ⟨y3, z3⟩ := y3
   simp only at d0 d1 d2 d3
   subst d0 d1 d2 d3
   have f0 := datum_string Tryd.underlying9 e0
   have f1 := datum_int Tryd.underlying3 e1
   have f2 := datum_int Tryd.underlying3 e2
   have f3 := datum_int Tryd.underlying3 e3
   simp at f0 f1 f2 f3
   subst f0 f1 f2 f3
   exact ⟨by simpa using h0, by simpa using h1, by simpa using h2, by simpa using h3, trivial⟩
  ·cases hd
end Go.Proofs.YteffiodbflmfkaaDoor
