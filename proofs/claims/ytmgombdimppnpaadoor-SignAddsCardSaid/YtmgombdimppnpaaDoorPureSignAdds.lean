/- SignAdds answers true for every signature and symbol that can be read: package sign's Add is the reference's, and what was handed in stays. No conditions. -/
import Derived.Test.YtmgombdimppnpaaDoorWantSignAdds
import Derived.Test.YtmgombdimppnpaaDoorSignMore
import Derived.Test.YtmgombdimppnpaaDoorPSx0
import Derived.Test.YtmgombdimppnpaaDoorPSx4
import Derived.Test.YtmgombdimppnpaaDoorPSx5
import Derived.Test.YtmgombdimppnpaaDoorPSx6
namespace Go.Proofs.YtmgombdimppnpaaDoor.PS
open Go Go.RowKit Go.Proofs.YtmgombdimppnpaaDoorW.PrintWords Go.Proofs.YtmgombdimppnpaaDoorW.PrintLast Go.Proofs.YtmgombdimppnpaaDoor
theorem adds_loop (l : List S33) (hl : l.length * 40 ≤ 140737488351232) : ∀ (d i : Nat) (a : List S33), a.length - i = d → i ≤ a.length → a.length ≤ 9223372036854775806 → Ev (fun k => quaerelaw1_SignAdds.l0 k l l a (i : Int)) true := by
  intro d
  induction d with
  | zero =>
    intro i a hd hi ha
    refine Ev.step (f := fun k => (quaerelaw0_SameSyms.f k l l).bind fun t => if t = true then (quaerelaw1_awake.f k).bind fun t => some t else some false) (fun k => ?_) ?_
    · simp only [quaerelaw1_SignAdds.l0]
      rw [if_neg (by omega)]
    · exact Ev.bind (sameSyms_ev l (by omega)) (Ev.if_pos rfl (Ev.bind awake_ev (Ev.now _)))
  | succ d ih =>
    intro i a hd hi ha
    have h := ih (i + 1) (a.set i ⟨(rd_T33 a (i : Int)).f0, (rd_T33 a (i : Int)).f1, (rd_T33 a (i : Int)).f2, Go.bits .xor .i64 ((rd_T33 a (i : Int)).f3) 90⟩) (by rw [List.length_set]; omega) (by rw [List.length_set]; omega) (by rw [List.length_set]; omega)
    refine Ev.step (f := fun k => quaerelaw1_SignAdds.l0 k l l (a.set i ⟨(rd_T33 a (i : Int)).f0, (rd_T33 a (i : Int)).f1, (rd_T33 a (i : Int)).f2, Go.bits .xor .i64 ((rd_T33 a (i : Int)).f3) 90⟩) ((i + 1 : Nat) : Int)) (fun k => ?_) h
    simp only [quaerelaw1_SignAdds.l0]
    rw [if_pos (by omega), if_pos (by omega), wrap_nat i (by omega)]
    simp
theorem AddV_length (l : List S33) (x : S33) : (AddV l x).1.length ≤ 21 := by
  unfold AddV
  split
  · rename_i h
    have := (signB_true.1 h.1).2.1
    split
    · simp
    · split
      · simp
      · simp; omega
  · simp
theorem quaerelaw1_SignAdds.pure : quaerelaw1_SignAdds.Pure := by
  intro l x hl hx
  refine Ev.get (g := fun k => quaerelaw1_SignAdds.f k l x.f0 x.f1 x.f2 x.f3) ?_
  have hlen := AddV_length l x
  unfold quaerelaw1_SignAdds.f
  simp only [copySyms_f l hl.1, Option.bind_some, quaerelaw0_Num.f]
  refine Ev.bind (Add_ev l x) (Ev.bind (ref_Add_ev l x) (Ev.if_pos rfl (Ev.bind (sameSyms_ev _ (by omega)) ?_)))
  refine Ev.step (f := fun k => quaerelaw1_SignAdds.l0 k l l (AddV l x).1 ((0 : Nat) : Int)) (fun k => ?_) (adds_loop l hl.1 _ 0 _ rfl (by omega) (by omega))
  simp only [quaerelaw1_SignAdds.j0]
  rw [if_neg (by simp)]
  rfl
end Go.Proofs.YtmgombdimppnpaaDoor.PS
