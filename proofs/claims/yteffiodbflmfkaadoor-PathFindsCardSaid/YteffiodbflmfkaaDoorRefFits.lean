/- The document's fits: its walk. -/
import Derived.Test.YteffiodbflmfkaaDoorApartR
import Derived.Test.YteffiodbflmfkaaDoorStore
import Derived.Test.YteffiodbflmfkaaDoorRefAtom
import Derived.Test.YteffiodbflmfkaaDoorPPx0
import Derived.Test.YteffiodbflmfkaaDoorPPx12
namespace Go.Proofs.YteffiodbflmfkaaDoor.PP
open Go Go.RowKit Go.Proofs.YteffiodbflmfkaaDoorW.PrintWords Go.Proofs.YteffiodbflmfkaaDoorW.PrintLast Go.Proofs.YteffiodbflmfkaaDoorW.PrintMore Go.Proofs.YteffiodbflmfkaaDoor
set_option linter.unusedVariables false
set_option linter.unusedSimpArgs false
open Classical in
noncomputable def headV (l : List S59) (t : List Int) : Int := if Atom l t then rd t 0 else -1
open Classical in
noncomputable def bodyV (l : List S59) (t : List Int) : List Int := if Atom l t then t.drop 1 else t
theorem body_row {l : List S59} {t : List Int} (h : TextT l t) : IsRow l (bodyV l t) := by
 unfold bodyV
 split
 ·rename_i ha
  obtain ⟨p, r, rfl, _, _, _, hr⟩ := ha
  exact ⟨_, hr⟩
 ·rename_i ha
  exact ⟨1, h.2.resolve_right ha⟩
noncomputable def fitsR (l : List S59) (a t : List Int) (way : Int) : Bool :=
 if headV l a = headV l t then (if way = 0 then apartV l (bodyV l t) (bodyV l a) else if way = 1 then (becomeV l (bodyV l t) (bodyV l a)).2 else if way = 2 then (becomeV l (bodyV l a) (bodyV l t)).2 else false) else false
set_option maxHeartbeats 1000000 in
set_option maxRecDepth 100000 in
theorem rest_calls (A0 : Option Addr) (c0 : Nat) (l : List S59) (A1 : Option Addr) (c1 : Nat) (t : List Int) (w : World) (hs : SignOk l)
  (hr0 : Kd.C k59 w A0 l.length l) (hc0 : l.length ≤ c0) (hr1 : Kd.C (Kd.int .i64) w A1 t.length t) (hc1 : t.length ≤ c1) :
  Calls Tryd.prog 47 #[.slice A0 l.length c0, .slice A1 t.length c1] w fun e w' => ∃ A c, e = .returned (.tuple #[.slice A (bodyV l t).length c, .int .i64 (headV l t)]) ∧ (bodyV l t).length ≤ c ∧ Kd.C (Kd.int .i64) w' A (bodyV l t).length (bodyV l t) ∧ Below w.heap.size w w' := by
 classical
 obtain ⟨k, hk⟩ := (refIsAtom_ev hs t).rounds
 have HR0 := Aside0.mk hr0
 have HR1 := Aside0.mk hr1
 clear hr0 hr1
 by_cases ha : Atom l t
 ·rw [decide_eq_true ha] at hk
  have eb : bodyV l t = t.drop 1 := if_pos ha
  have eh : headV l t = rd t 0 := if_pos ha
  rw [eb, eh]
  obtain ⟨p, r, e, _⟩ := ha
  have hpos : 0 < t.length := by rw [e]; simp
  clear e eb eh
  go_enter Tryd.func47, Tryd.ntmps47
  go_wp2_with fail
  refine (quaereref1_IsAtom.calls k _ _ l _ _ t true _ HR0.out hc0 HR1.out hc1 hk).mono ?_
  rintro e w1 ⟨rfl, hb1⟩
  have HB1 := Aside0.mk hb1
  have HR := Aside0.mk (Kd.C_below HR1.out hb1)
  clear hb1
  obtain ⟨ad, rfl, hx⟩ := Kd.at_int HR.out 0 (by omega) (by omega)
  rw [show ((0 : Int)).toNat = 0 from rfl, Addr.add_zero'] at hx
  have g2 : (0 : Int) < (t.length : Int) := by omega
  obtain ⟨j0, hj0', _, hjs, _⟩ := info_parts info3
  have hcx := cut_from (P := Tryd.prog) 23 3 .i64 Tryd.underlying23 hj0' 1 hjs (some ad) t.length c1 1 (by omega) (by omega)
  have hrx := Kd.C_drop (m := 1) (c := c1) HR.out (by omega) hc1
  have t1 : (1 : Int).toNat = 1 := rfl
  rw [t1] at hcx
  obtain ⟨XT, hXT⟩ : ∃ XT, XT = (if c1 = 1 then some ad else (some ad : Option Addr).map (·.add (1 * 1))) := ⟨_, rfl⟩
  rw [← hXT] at hcx
  have HX := Aside0.mk (show Kd.C (Kd.int .i64) w1 XT (t.drop 1).length (t.drop 1) by rw [hXT]; exact hrx)
  have hdl : (t.drop 1).length = t.length - 1 := List.length_drop
  have HD := Aside0.mk hdl
  obtain ⟨v0, hv0⟩ : ∃ v0, v0 = rd t 0 := ⟨_, rfl⟩
  rw [← hv0] at hx
  have HV0 := Aside0.mk hv0
  clear hrx hXT hk hdl hv0
  go_wp2
  go_quiet (fail)
  have HBQ := Aside0.mk (pw_below_drewN HB1.out nq)
  have HXQ := Aside0.mk (Kd.C_drewN HX.out nq)
  go_wp2
  go_ret2
  exact ⟨XT, c1 - 1, by rw [HD.out, ← HV0.out]; rfl, by have := HD.out; omega, HXQ.out, HBQ.out⟩
 ·rw [decide_eq_false ha] at hk
  have eb : bodyV l t = t := if_neg ha
  have eh : headV l t = -1 := if_neg ha
  rw [eb, eh]
  clear ha eb eh
  go_enter Tryd.func47, Tryd.ntmps47
  go_wp2_with fail
  refine (quaereref1_IsAtom.calls k _ _ l _ _ t false _ HR0.out hc0 HR1.out hc1 hk).mono ?_
  rintro e w1 ⟨rfl, hb1⟩
  have HB1 := Aside0.mk hb1
  have HR := Aside0.mk (Kd.C_below HR1.out hb1)
  clear hb1 hk
  go_wp2
  go_ret2
  exact ⟨_, _, rfl, hc1, HR.out, HB1.out⟩
set_option maxHeartbeats 1000000 in
set_option maxRecDepth 100000 in
theorem fits_calls (A0 : Option Addr) (c0 : Nat) (l : List S59) (A1 : Option Addr) (c1 : Nat) (a : List Int) (A2 : Option Addr) (c2 : Nat) (t : List Int) (way : Int) (w : World) (hta : TextT l a) (htt : TextT l t)
  (hr0 : Kd.C k59 w A0 l.length l) (hc0 : l.length ≤ c0) (hr1 : Kd.C (Kd.int .i64) w A1 a.length a) (hc1 : a.length ≤ c1) (hr2 : Kd.C (Kd.int .i64) w A2 t.length t) (hc2 : t.length ≤ c2) :
  Calls Tryd.prog 32 #[.slice A0 l.length c0, .slice A1 a.length c1, .slice A2 t.length c2, .int .i64 way] w fun e w' => e = .returned (.bool (fitsR l a t way)) ∧ Below w.heap.size w w' := by
 have HR0 := Aside0.mk hr0
 have HR1 := Aside0.mk hr1
 have HR2 := Aside0.mk hr2
 have HTA := Aside0.mk (body_row hta)
 have HTT := Aside0.mk (body_row htt)
 have hs := hta.1
 obtain ⟨R, hR⟩ : ∃ R, R = fitsR l a t way := ⟨_, rfl⟩
 have HV := Aside0.mk (show R = if headV l a = headV l t then (if way = 0 then apartV l (bodyV l t) (bodyV l a) else if way = 1 then (becomeV l (bodyV l t) (bodyV l a)).2 else if way = 2 then (becomeV l (bodyV l a) (bodyV l t)).2 else false) else false from hR)
 rw [← hR]
 clear hr0 hr1 hr2 hta htt hR
 go_enter Tryd.func32, Tryd.ntmps32
 go_wp2_with fail
 refine (rest_calls A0 c0 l A1 c1 a _ hs HR0.out hc0 HR1.out hc1).mono ?_
 rintro e w1 ⟨XA, xc, rfl, hxc, hxr, hb1⟩
 have HB1 := Aside0.mk hb1
 go_wp2_with fail
 refine (rest_calls A0 c0 l A2 c2 t _ hs (Kd.C_below HR0.out HB1.out) hc0 (Kd.C_below HR2.out HB1.out) hc2).mono ?_
 rintro e w2 ⟨YA, yc, rfl, hyc, hyr, hb2⟩
 have HB2 := Aside0.mk (below_step HB1.out hb2)
 have HX := Aside0.mk (Kd.C_below hxr hb2)
 have HY := Aside0.mk hyr
 have HXC := Aside0.mk hxc
 have HYC := Aside0.mk hyc
 clear hxr hyr hxc hyc hb1 hb2 HB1 HR1 HR2
 obtain ⟨p, hp⟩ : ∃ p, p = headV l a := ⟨_, rfl⟩
 obtain ⟨q, hq⟩ : ∃ q, q = headV l t := ⟨_, rfl⟩
 obtain ⟨x, hx⟩ : ∃ x, x = bodyV l a := ⟨_, rfl⟩
 obtain ⟨y, hy⟩ : ∃ y, y = bodyV l t := ⟨_, rfl⟩
 rw [← hp, ← hq, ← hx, ← hy] at HV
 rw [← hx] at HX HXC HTA ⊢
 rw [← hy] at HY HYC HTT ⊢
 rw [← hp, ← hq]
 clear hp hq hx hy
 by_cases hpq : p = q
 ·subst hpq
  have e0 : (p != p) = false := by simp
  by_cases h0 : way = 0
  ·subst h0
   go_wp2_with fail
   refine (can_calls A0 c0 l YA yc y XA xc x _ (Kd.C_below HR0.out HB2.out) hc0 HY.out HYC.out HX.out HXC.out HTT.out HTA.out).mono ?_
   rintro e w3 ⟨rfl, hb3⟩
   have HB3 := Aside0.mk (below_step HB2.out hb3)
   clear hb3
   go_wp2
   go_ret
   exact ⟨by rw [HV.out]; first | rfl | (simp; done), HB3.out⟩
  ·have e1 : (way == 0) = false := by simpa using h0
   have e2 : decide (way = 0) = false := by simpa using h0
   by_cases h1 : way = 1
   ·subst h1
    go_wp2_with fail
    refine (refBecome_calls A0 c0 l YA yc y XA xc x _ (Kd.C_below HR0.out HB2.out) hc0 HY.out HYC.out HX.out HXC.out HTT.out HTA.out).mono ?_
    rintro e w3 ⟨v3, rfl, _, hb3⟩
    have HB3 := Aside0.mk (below_step HB2.out hb3)
    clear hb3
    go_wp2
    go_ret
    exact ⟨by rw [HV.out]; first | rfl | (simp; done), HB3.out⟩
   ·have e3 : (way == 1) = false := by simpa using h1
    have e4 : decide (way = 1) = false := by simpa using h1
    by_cases h2 : way = 2
    ·subst h2
     go_wp2_with fail
     refine (refBecome_calls A0 c0 l XA xc x YA yc y _ (Kd.C_below HR0.out HB2.out) hc0 HX.out HXC.out HY.out HYC.out HTA.out HTT.out).mono ?_
     rintro e w3 ⟨v3, rfl, _, hb3⟩
     have HB3 := Aside0.mk (below_step HB2.out hb3)
     clear hb3
     go_wp2
     go_ret
     exact ⟨by rw [HV.out]; first | rfl | (simp; done), HB3.out⟩
    ·have e5 : (way == 2) = false := by simpa using h2
     have e6 : decide (way = 2) = false := by simpa using h2
     go_wp2
     go_ret
     exact ⟨by rw [HV.out]; first | rfl | (simp [h0, h1, h2]; done), HB2.out⟩
 ·have e0 : (p != q) = true := by simpa using hpq
  have e1 : decide (p = q) = false := by simpa using hpq
  go_wp2
  go_ret
  exact ⟨by rw [HV.out]; first | rfl | (simp [hpq]; done), HB2.out⟩
end Go.Proofs.YteffiodbflmfkaaDoor.PP
