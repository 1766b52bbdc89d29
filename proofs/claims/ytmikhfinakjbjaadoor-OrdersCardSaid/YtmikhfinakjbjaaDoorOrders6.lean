/- Orders: its walk (rows lent with room), and that it answers true. -/
import Derived.Test.YtmikhfinakjbjaaDoorLend
import Derived.Test.YtmikhfinakjbjaaDoorRefMore
import Derived.Test.YtmikhfinakjbjaaDoorAwake6
import Derived.Test.YtmikhfinakjbjaaDoorPOx0
import Derived.Test.YtmikhfinakjbjaaDoorPOx4
import Derived.Test.YtmikhfinakjbjaaDoorPOx11
import Derived.Test.YtmikhfinakjbjaaDoorPOx13
import Derived.Test.YtmikhfinakjbjaaDoorPOx14
namespace Go.Proofs.YtmikhfinakjbjaaDoor.PO
open Go Go.RowKit Go.Proofs.YtmikhfinakjbjaaDoorW.PrintWords Go.Proofs.YtmikhfinakjbjaaDoorW.PrintLast Go.Proofs.YtmikhfinakjbjaaDoorW.PrintMore Go.Proofs.YtmikhfinakjbjaaDoor
set_option linter.unusedVariables false
set_option linter.unusedSimpArgs false
set_option maxHeartbeats 1000000 in
set_option maxRecDepth 100000 in
theorem orders_calls (A0 : Option Addr) (c0 : Nat) (l : List S45) (A1 : Option Addr) (c1 : Nat) (a : List Int) (A2 : Option Addr) (c2 : Nat) (b : List Int) (w : World)
    (hr0 : Kd.C k45 w A0 l.length l) (hc0 : l.length ≤ c0) (hr1 : Kd.C (Kd.int .i64) w A1 a.length a) (hc1 : a.length ≤ c1) (hr2 : Kd.C (Kd.int .i64) w A2 b.length b) (hc2 : b.length ≤ c2) (hG : Glob w) (hla : a.length < 17592186044400) (hlb : b.length < 17592186044400) :
    Calls Tryd.prog 3 #[.slice A0 l.length c0, .slice A1 a.length c1, .slice A2 b.length c2] w fun e w' => e = .returned (.bool true) ∧ Below w.heap.size w w' := by
  obtain ⟨⟨r2, r3⟩, hM⟩ : ∃ R, CompareV l a b = R := ⟨_, rfl⟩
  obtain ⟨kc, hkc⟩ := (compare_ev l a b).rounds
  rw [hM] at hkc
  obtain ⟨kr, hkr⟩ := (refCompare_ev l a b).rounds
  rw [hM] at hkr
  obtain ⟨kw, hkw⟩ := awake_ev.rounds
  have HKC := Aside0.mk hkc
  have HKR := Aside0.mk hkr
  have HKW := Aside0.mk hkw
  have HR0 := Aside0.mk hr0
  have HR1 := Aside0.mk hr1
  have HR2 := Aside0.mk hr2
  clear hr0 hr1 hr2 hkr hkc hkw hM
  go_enter Tryd.func3, Tryd.ntmps3
  go_wp2_with fail
  refine (lend_calls A1 c1 a _ HR1.out hc1 hla).mono ?_
  rintro e w1 ⟨AX, cx, rfl, hx, hb1⟩
  have HX1 := Aside0.mk hx
  have HB1 := Aside0.mk hb1
  clear hx hb1
  go_wp2_with fail
  refine (lend_calls A2 c2 b _ (Kd.C_below HR2.out HB1.out) hc2 hlb).mono ?_
  rintro e w2 ⟨AY, cy, rfl, hy, hb2⟩
  have HX := Aside0.mk (HX1.out.below hb2)
  have HY := Aside0.mk hy
  have HB2 := Aside0.mk (below_step HB1.out hb2)
  clear hy hb2 HX1 HB1
  go_wp2_with fail
  refine (order_Compare.calls kc _ c0 l _ cx a _ cy b r2 r3 _ (Kd.C_below HR0.out HB2.out) hc0 HX.out.reads (by have := HX.out.cap; omega) HY.out.reads (by have := HY.out.cap; omega) HKC.out (hG.below HB2.out)).mono ?_
  rintro e w3 ⟨rfl, hb3⟩
  have HB3 := Aside0.mk hb3
  have HBW3 := Aside0.mk (below_step HB2.out hb3)
  clear hb3
  go_wp2_with fail
  refine (quaereref1_Compare.calls kr _ c0 l _ c1 a _ c2 b r2 r3 _ (Kd.C_below HR0.out HBW3.out) hc0 (Kd.C_below HR1.out HBW3.out) hc1 (Kd.C_below HR2.out HBW3.out) hc2 HKR.out).mono ?_
  rintro e w4 ⟨rfl, hb4⟩
  have HB4 := Aside0.mk (below_step HB3.out hb4)
  have HBW4 := Aside0.mk (below_step HBW3.out hb4)
  clear hb4 HB3 HBW3
  go_wp2_with fail
  refine (quaerelaw0_Num.calls r3 r3 _ rfl).mono ?_
  rintro e w6 ⟨rfl, hd6⟩
  have HX7 := Aside0.mk (HX.out.below (below_step HB4.out hd6.below))
  have HY7 := Aside0.mk (HY.out.below (below_step HB4.out hd6.below))
  have HBW7 := Aside0.mk (below_step HBW4.out hd6.below)
  clear hd6 HX HY HB2 HB4 HBW4
  go_wp2_with fail
  refine (kept_calls AX cx _ a _ c1 _ HX7.out (Kd.C_below HR1.out HBW7.out) hc1).mono ?_
  rintro e w8 ⟨rfl, hd8⟩
  have HY8 := Aside0.mk (HY7.out.below hd8.below)
  have HBW8 := Aside0.mk (below_step HBW7.out hd8.below)
  clear hd8 HX7 HY7 HBW7
  go_wp2_with fail
  refine (kept_calls AY cy _ b _ c2 _ HY8.out (Kd.C_below HR2.out HBW8.out) hc2).mono ?_
  rintro e w9 ⟨rfl, hd9⟩
  have HBW9 := Aside0.mk (below_step HBW8.out hd9.below)
  clear hd9 HY8 HBW8
  go_wp2_with fail
  refine (quaerelaw6_awake.calls kw true _ HKW.out (hG.below HBW9.out)).mono ?_
  rintro e w10 ⟨rfl, hb10⟩
  have HBW10 := Aside0.mk (below_step HBW9.out hb10)
  clear hb10
  go_wp2
  go_ret
  exact ⟨rfl, HBW10.out⟩
end Go.Proofs.YtmikhfinakjbjaaDoor.PO
