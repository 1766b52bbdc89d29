/- Unifies: its walk (rows lent with room, what is told written over), and that it answers true. -/
import Derived.Test.YtaegdhpcnpojnaaDoorRefTerms
import Derived.Test.YtaegdhpcnpojnaaDoorLend
import Derived.Test.YtaegdhpcnpojnaaDoorSpoil
import Derived.Test.YtaegdhpcnpojnaaDoorUniRf
import Derived.Test.YtaegdhpcnpojnaaDoorAwake4
import Derived.Test.YtaegdhpcnpojnaaDoorPUx0
import Derived.Test.YtaegdhpcnpojnaaDoorPUx4
import Derived.Test.YtaegdhpcnpojnaaDoorPUx12
import Derived.Test.YtaegdhpcnpojnaaDoorPUx13
import Derived.Test.YtaegdhpcnpojnaaDoorPUx14
import Derived.Test.YtaegdhpcnpojnaaDoorPUx15
namespace Go.Proofs.YtaegdhpcnpojnaaDoor.PU
open Go Go.RowKit Go.Proofs.YtaegdhpcnpojnaaDoorW.PrintWords Go.Proofs.YtaegdhpcnpojnaaDoorW.PrintLast Go.Proofs.YtaegdhpcnpojnaaDoorW.PrintMore Go.Proofs.YtaegdhpcnpojnaaDoor
set_option linter.unusedVariables false
set_option linter.unusedSimpArgs false
open Classical in
theorem togetherV_is (l : List S66) (a b : List Int) (hr : IsRow l a ∧ IsRow l b) : (if (togetherV l a b).2.2 = true then some ((togetherV l a b).1, (togetherV l a b).2.1, (0 : Int)) else some (([] : List S41), false, (401 : Int))) = some (unifyV l a b) := by
  unfold togetherV
  rcases unifyV_cases l a b with ⟨h, _⟩ | ⟨_, _, _, h⟩ | ⟨τ, ς, _, _, _, h⟩
  · exact absurd hr h
  · rw [h]; rfl
  · rcases outV_cases ς with ⟨h2, _⟩ | ⟨h2, _⟩
    · rw [h, h2]; rfl
    · rw [h, h2]; rfl
theorem refU_t (l : List S66) (a b : List Int) : Ev (fun k => quaereref1_Unify.j0 k l a b true) (([] : List S41), false, (400 : Int)) :=
  Ev.step (f := fun _ => some (([] : List S41), false, (400 : Int))) (fun k => by simp only [quaereref1_Unify.j0]; rw [if_pos trivial]) (Ev.now _)
open Classical in
theorem refU_f (l : List S66) (a b : List Int) (hr : IsRow l a ∧ IsRow l b) : Ev (fun k => quaereref1_Unify.j0 k l a b false) (unifyV l a b) :=
  Ev.step (f := fun _ => some (unifyV l a b)) (fun k => by
    simp only [quaereref1_Unify.j0, quaereref1_Together.f]
    rw [if_neg (by decide), if_pos hr, Option.bind_some]
    exact togetherV_is l a b hr) (Ev.now _)
open Classical in
theorem refUnify_ev (l : List S66) (a b : List Int) : Ev (fun k => quaereref1_Unify.f k l a b) (unifyV l a b) := by
  unfold quaereref1_Unify.f
  refine Ev.bind (ref_may_ev l) ?_
  by_cases hs : SignOk l
  · refine Ev.if_pos (signB_true.2 hs) ?_
    refine Ev.bind (terms_ev hs a) ?_
    by_cases ha : IsRow l a
    · obtain ⟨n, hn⟩ := ha
      rw [termsV_row hn]
      refine Ev.if_neg (by omega) ?_
      refine Ev.bind (terms_ev hs b) ?_
      by_cases hb : IsRow l b
      · obtain ⟨m, hm⟩ := hb
        rw [termsV_row hm]
        have hd : decide ((m : Int) < 0) = false := by rw [decide_eq_false_iff_not]; omega
        rw [hd]
        exact refU_f l a b ⟨⟨n, hn⟩, ⟨m, hm⟩⟩
      · rw [termsV_no hb]
        have hd : decide ((-1 : Int) < 0) = true := by decide
        rw [hd]
        rw [unifyV_form (fun h => hb h.2)]
        exact refU_t l a b
    · rw [termsV_no ha]
      refine Ev.if_pos (by omega) ?_
      rw [unifyV_form (fun h => ha h.1)]
      exact refU_t l a b
  · refine Ev.if_neg (fun h => hs (signB_true.1 h)) ?_
    rw [unifyV_form (fun h => by obtain ⟨n, h, _⟩ := h.1; exact hs h)]
    exact refU_t l a b
set_option maxHeartbeats 1000000 in
set_option maxRecDepth 100000 in
theorem unifies_calls (A0 : Option Addr) (c0 : Nat) (l : List S66) (A1 : Option Addr) (c1 : Nat) (a : List Int) (A2 : Option Addr) (c2 : Nat) (b : List Int) (w : World)
    (hr0 : Kd.C k66 w A0 l.length l) (hc0 : l.length ≤ c0) (hr1 : Kd.C (Kd.int .i64) w A1 a.length a) (hc1 : a.length ≤ c1) (hr2 : Kd.C (Kd.int .i64) w A2 b.length b) (hc2 : b.length ≤ c2) (hG : Glob w) (hla : a.length < 17592186044400) (hlb : b.length < 17592186044400) :
    Calls Tryd.prog 3 #[.slice A0 l.length c0, .slice A1 a.length c1, .slice A2 b.length c2] w fun e w' => e = .returned (.bool true) ∧ Below w.heap.size w w' := by
  obtain ⟨⟨m, r2, r3⟩, hM⟩ : ∃ R, unifyV l a b = R := ⟨_, rfl⟩
  have hsh := unifyV_short l a b
  rw [hM] at hsh
  obtain ⟨kr, hkr⟩ := (refUnify_ev l a b).rounds
  rw [hM] at hkr
  obtain ⟨ks, hks⟩ := (sameBinds_ev m (Nat.le_trans hsh.1 (by decide)) hsh.2).rounds
  obtain ⟨kw, hkw⟩ := awake4_ev.rounds
  have HM := Aside0.mk hM
  have HKR := Aside0.mk hkr
  have HKS := Aside0.mk hks
  have HKW := Aside0.mk hkw
  have HR0 := Aside0.mk hr0
  have HR1 := Aside0.mk hr1
  have HR2 := Aside0.mk hr2
  clear hr0 hr1 hr2 hkr hks hkw hM hsh
  go_enter Tryd.func3, Tryd.ntmps3
  go_wp2_with fail
  refine (lend_calls A1 c1 a _ HR1.out hc1 hla).mono ?_
  rintro e w1 ⟨AX, cx, rfl, hx, hb1⟩
  have HX1 := Aside0.mk hx
  have HB1 := Aside0.mk hb1
  clear hx hb1
  go_wp2_with fail
  refine (lend_calls A2 c2 b _ (Kd.C_below HR2.out HB1.out) hc2 hlb).mono ?_
  rintro e w2 ⟨AY, cy, rfl, hy, hb2⟩
  have HX := Aside0.mk (HX1.out.below hb2)
  have HY := Aside0.mk hy
  have HB2 := Aside0.mk (below_step HB1.out hb2)
  clear hy hb2 HX1 HB1
  go_wp2_with fail
  refine (unify_Unify.calls _ c0 l _ cx a _ cy b m r2 r3 _ (Kd.C_below HR0.out HB2.out) hc0 HX.out.reads (by have := HX.out.cap; omega) HY.out.reads (by have := HY.out.cap; omega) (by unfold unify_Unify.f; rw [HM.out]) (hG.below HB2.out)).mono ?_
  rintro e w3 ⟨v, rfl, hS, hb3⟩
  have HS3 := Aside0.mk hS
  have HB3 := Aside0.mk hb3
  have HBW3 := Aside0.mk (below_step HB2.out hb3)
  clear hS hb3
  go_wp2_with fail
  refine (quaereref1_Unify.calls kr _ c0 l _ c1 a _ c2 b m r2 r3 _ (Kd.C_below HR0.out HBW3.out) hc0 (Kd.C_below HR1.out HBW3.out) hc1 (Kd.C_below HR2.out HBW3.out) hc2 HKR.out).mono ?_
  rintro e w4 ⟨v', rfl, hS', hb4⟩
  have HS4 := Aside0.mk (Kd.S_below HS3.out hb4)
  have HS4' := Aside0.mk hS'
  have HB4 := Aside0.mk (below_step HB3.out hb4)
  have HBW4 := Aside0.mk (below_step HBW3.out hb4)
  clear hS' hb4 HS3 HB3 HBW3
  obtain ⟨AV, cv, rfl⟩ := Kd.S_slice HS4.out
  obtain ⟨AV', cv', rfl⟩ := Kd.S_slice HS4'.out
  go_wp2_with fail
  refine (quaerelaw0_SameBinds.calls ks _ cv m _ cv' m true _ (Kd.S_reads' HS4.out).2.2 (Kd.S_reads' HS4.out).2.1 (Kd.S_reads' HS4'.out).2.2 (Kd.S_reads' HS4'.out).2.1 HKS.out).mono ?_
  rintro e w5 ⟨rfl, hd5⟩
  have HS5 := Aside0.mk (Kd.S_below HS4.out hd5.below)
  have HB5 := Aside0.mk (below_step HB4.out hd5.below)
  have HBW5 := Aside0.mk (below_step HBW4.out hd5.below)
  clear hd5 HS4 HS4' HB4 HBW4
  go_wp2_with fail
  refine (quaerelaw0_Num.calls r3 r3 _ rfl).mono ?_
  rintro e w6 ⟨rfl, hd6⟩
  have HS6 := Aside0.mk (Kd.S_below HS5.out hd6.below)
  have HB6 := Aside0.mk (below_step HB5.out hd6.below)
  have HBW6 := Aside0.mk (below_step HBW5.out hd6.below)
  clear hd6 HS5 HB5 HBW5
  go_wp2_with fail
  refine (spoil_calls _ m w2 _ HB6.out HS6.out).mono ?_
  rintro e w7 ⟨rfl, hb7⟩
  have HX7 := Aside0.mk (HX.out.below hb7)
  have HY7 := Aside0.mk (HY.out.below hb7)
  have HBW7 := Aside0.mk (below_step HB2.out hb7)
  clear hb7 HX HY HB2 HS6 HB6 HBW6
  go_wp2_with fail
  refine (kept_calls AX cx _ a _ c1 _ HX7.out (Kd.C_below HR1.out HBW7.out) hc1).mono ?_
  rintro e w8 ⟨rfl, hd8⟩
  have HY8 := Aside0.mk (HY7.out.below hd8.below)
  have HBW8 := Aside0.mk (below_step HBW7.out hd8.below)
  clear hd8 HX7 HY7 HBW7
  go_wp2_with fail
  refine (kept_calls AY cy _ b _ c2 _ HY8.out (Kd.C_below HR2.out HBW8.out) hc2).mono ?_
  rintro e w9 ⟨rfl, hd9⟩
  have HBW9 := Aside0.mk (below_step HBW8.out hd9.below)
  clear hd9 HY8 HBW8
  go_wp2_with fail
  refine (quaerelaw4_awake.calls kw true _ HKW.out (hG.below HBW9.out)).mono ?_
  rintro e w10 ⟨rfl, hb10⟩
  have HBW10 := Aside0.mk (below_step HBW9.out hb10)
  clear hb10
  go_wp2
  go_ret
  exact ⟨rfl, HBW10.out⟩
end Go.Proofs.YtaegdhpcnpojnaaDoor.PU
