/- Two rows without a variable in common: can they be made the same? The document's answer, walked. -/
import Derived.Test.YteffiodbflmfkaaDoorApartP
import Derived.Test.YteffiodbflmfkaaDoorUniRf
import Derived.Test.YteffiodbflmfkaaDoorPPx0
namespace Go.Proofs.YteffiodbflmfkaaDoor.PP
open Go Go.RowKit Go.Proofs.YteffiodbflmfkaaDoorW.PrintWords Go.Proofs.YteffiodbflmfkaaDoorW.PrintLast Go.Proofs.YteffiodbflmfkaaDoorW.PrintMore Go.Proofs.YteffiodbflmfkaaDoor
set_option linter.unusedVariables false
set_option linter.unusedSimpArgs false
/-! the document's -/
theorem far_len (b : List Int) (i : Nat) : ((b.take i).map (shC 24)).length ≤ i := by rw [List.length_map, List.length_take]; omega
set_option maxHeartbeats 1000000 in
set_option maxRecDepth 100000 in
theorem can_calls (A0 : Option Addr) (c0 : Nat) (l : List S59) (A1 : Option Addr) (c1 : Nat) (a : List Int) (A2 : Option Addr) (c2 : Nat) (b : List Int) (w : World)
  (hr0 : Kd.C k59 w A0 l.length l) (hc0 : l.length ≤ c0) (hr1 : Kd.C (Kd.int .i64) w A1 a.length a) (hc1 : a.length ≤ c1) (hr2 : Kd.C (Kd.int .i64) w A2 b.length b) (hc2 : b.length ≤ c2) (hia : IsRow l a) (hib : IsRow l b) :
  Calls Tryd.prog 48 #[.slice A0 l.length c0, .slice A1 a.length c1, .slice A2 b.length c2] w fun e w' => e = .returned (.bool (apartV l a b)) ∧ Below w.heap.size w w' := by
 have hus := Tryd.underlying79
 obtain ⟨n, hra⟩ := hia
 obtain ⟨m, hrb⟩ := hib
 have HR0 := Aside0.mk hr0
 have HR1 := Aside0.mk hr1
 have HR2 := Aside0.mk hr2
 have HC0 := Aside0.mk hc0
 have HC1 := Aside0.mk hc1
 have HC2 := Aside0.mk hc2
 have HRA := Aside0.mk hra
 have HRB := Aside0.mk hrb
 clear hr0 hr1 hr2 hc0 hc1 hc2 hra hrb
 go_enter Tryd.func48, Tryd.ntmps48
 go_wp2
 go_loopg [7, 8] (b.length + 1) (fun kq v7 v8 w' => ∃ (i : Nat), v8 = .int .i64 (i : Int) ∧ Aside0 (i ≤ b.length ∧ kq + i = b.length + 1) ∧ Aside0 ((Kd.int .i64).R 3 w' w.heap.size (fun _ => True) v7 ((b.take i).map (shC 24))) ∧ Aside0 (Below w.heap.size w w'))
 case atStart => exact ⟨0, rfl, ⟨by omega, by omega⟩, ⟨Kd.R_nil _ _ _ _ _⟩, ⟨Below.refl _ _⟩⟩
 case round =>
  obtain ⟨i, rfl, HI, HO, HB⟩ := hrel
  by_cases hi : i < b.length
  ·have hi0 : (0 : Int) ≤ (i : Int) := by omega
   have hi1 : (i : Int) < (b.length : Int) := by omega
   have d0 : decide ((i : Int) < (b.length : Int)) = true := by rw [decide_eq_true_eq]; omega
   have d00 : decide (i < b.length) = true := by rw [decide_eq_true_eq]; omega
   obtain ⟨ad, rfl, hx⟩ := Kd.at_int (Kd.C_below HR2.out HB.out) (i : Int) hi0 hi1
   rw [Int.toNat_natCast] at hx
   have HW1 := Aside0.mk (wrap_nat i (by have := HRB.out.2.1; omega))
   have hmem : rd b (i : Int) ∈ b := by rw [rd_nat b i hi]; exact List.getElem_mem _
   have hlo : -24 ≤ rd b (i : Int) := (codes_row HRB.out.2.2 _ hmem).1
   have htk : (b.take (i + 1)).map (shC 24) = (b.take i).map (shC 24) ++ [shC 24 (rd b (i : Int))] := by
    rw [List.take_succ_eq_append_getElem hi, List.map_append, rd_nat b i hi]
    rfl
   have HTK := Aside0.mk htk
   have HLN := Aside0.mk (show ((b.take i).map (shC 24)).length ≤ 48 by have := far_len b i; have := HRB.out.2.1; omega)
   obtain ⟨cc, hcc⟩ : ∃ cc, cc = rd b (i : Int) := ⟨_, rfl⟩
   have HI2 := Aside0.mk hi
   rw [← hcc] at hx hlo HTK
   clear htk hmem hcc hi
   by_cases hc : cc < 0
   ·have d1 : decide (cc < 0) = true := decide_eq_true hc
    have hw1 : IntKind.i64.wrap (cc - 23) = cc - 23 := IntWalk.i64_in _ (by omega)
    have hw2 : IntKind.i64.wrap (cc - 23 - 1) = cc - 23 - 1 := IntWalk.i64_in _ (by omega)
    have HSH := Aside0.mk (show shC 24 cc = cc - 23 - 1 by rw [shC_neg hc]; omega)
    go_wp2_with (first | ((with_reducible refine gate_builtin (b := .append) (xs := #[.tmp 23, .tmp 30]) rfl ?_); at_builtin; refine Kd.R_append (Kd.int .i64) (w0 := w) w.heap.size rfl (.tmp 23) (.tmp 30) 23 3 (.int .i64 0) 8 rfl Tryd.underlying23 info3 rfl (by decide) (by omega) u7 ((b.take i).map (shC 24)) (cc - 23 - 1) [.int .i64 (cc - 23 - 1)] (fun _ => True) (fun _ => False) rfl rfl ?aP (fun _ hk => hk.elim) ?aF ?aO ?aB ?aS ?aL ?_; (case aP => rfl); (case aF => exact fun _ _ => trivial); (case aO => exact HO.out); (case aB => exact HB.out); (case aS => exact below_size HB.out); (case aL => have := HLN.out; omega); intro v5 w5 ho hb hg hat; have n0_ := Aside0.mk hb; have n1_ := Aside0.mk ho; clear ho hb hg hat))
    go_roundg (gk - 1)
    case measure => have := HI.out; omega
    case rel => exact ⟨i + 1, by first | exact congrArg (Value.int .i64) HW1.out | rfl | go_num | (simp; done), ⟨by have := HI2.out; omega, by have := HI.out; omega⟩, ⟨by rw [HTK.out, HSH.out]; exact n1_.out⟩, n0_⟩
   ·have d1 : decide (cc < 0) = false := decide_eq_false hc
    have HSH := Aside0.mk (show shC 24 cc = cc from shC_pos (by omega))
    go_wp2_with (first | ((with_reducible refine gate_builtin (b := .append) (xs := #[.tmp 32, .tmp 37]) rfl ?_); at_builtin; refine Kd.R_append (Kd.int .i64) (w0 := w) w.heap.size rfl (.tmp 32) (.tmp 37) 23 3 (.int .i64 0) 8 rfl Tryd.underlying23 info3 rfl (by decide) (by omega) u7 ((b.take i).map (shC 24)) cc [.int .i64 cc] (fun _ => True) (fun _ => False) rfl rfl ?aP (fun _ hk => hk.elim) ?aF ?aO ?aB ?aS ?aL ?_; (case aP => rfl); (case aF => exact fun _ _ => trivial); (case aO => exact HO.out); (case aB => exact HB.out); (case aS => exact below_size HB.out); (case aL => have := HLN.out; omega); intro v5 w5 ho hb hg hat; have n0_ := Aside0.mk hb; have n1_ := Aside0.mk ho; clear ho hb hg hat))
    go_roundg (gk - 1)
    case measure => have := HI.out; omega
    case rel => exact ⟨i + 1, by first | exact congrArg (Value.int .i64) HW1.out | rfl | go_num | (simp; done), ⟨by have := HI2.out; omega, by have := HI.out; omega⟩, ⟨by rw [HTK.out, HSH.out]; exact n1_.out⟩, n0_⟩
  ·have hib : i = b.length := by have := HI.out; omega
   subst hib
   rw [List.take_length] at HO
   have d0 : decide ((b.length : Int) < (b.length : Int)) = false := by rw [decide_eq_false_iff_not]; omega
   obtain ⟨AF, cf, hv⟩ := Kd.R_slice HO.out
   subst hv
   have HF := Aside0.mk (Kd.R_reads' HO.out).2.2
   have HFC := Aside0.mk (Kd.R_reads' HO.out).2.1
   obtain ⟨F, hF⟩ : ∃ F, F = b.map (shC 24) := ⟨_, rfl⟩
   have HFN := Aside0.mk (show isN (arU l) m F by rw [hF]; exact far_isN HRB.out.2.2)
   have HFL := Aside0.mk (show F.length ≤ 48 by rw [hF, List.length_map]; exact HRB.out.2.1)
   have HFE := Aside0.mk hF
   rw [← hF] at HF HFC ⊢
   have HR0W := Aside0.mk (Kd.C_below HR0.out HB.out)
   have HR1W := Aside0.mk (Kd.C_below HR1.out HB.out)
   clear hi hF HO HI
   go_wp2_with fail
   refine (partsU_calls A0 c0 l A1 c1 a n wr wr (Below.refl _ _) HRA.out.1 (by have := HRA.out.2.1; omega) (arU_isN HRA.out.2.2) HR0W.out HC0.out HR1W.out HC1.out).mono ?_
   rintro e w1 ⟨vx, rfl, hvx, hb1⟩
   have HB1 := Aside0.mk hb1
   go_wp2_with fail
   refine (partsU_calls A0 c0 l AF cf F m wr w1 HB1.out HRA.out.1 (by have := HFL.out; omega) HFN.out (Kd.C_below HR0W.out HB1.out) HC0.out HF.out HFC.out).mono ?_
   rintro e w2 ⟨vy, rfl, hvy, hb2⟩
   have HVX := Aside0.mk (Kd.R_below hvx hb2)
   have HVY := Aside0.mk (Kd.R_lower hvy hb1.size)
   have HB2 := Aside0.mk (below_step HB1.out hb2)
   obtain ⟨AX, cx, rfl⟩ := Kd.R_slice hvx
   obtain ⟨AY, cy, rfl⟩ := Kd.R_slice hvy
   have px := pcsU_facts (arU_isN HRA.out.2.2) HRA.out.2.1
   have py := pcsU_facts HFN.out HFL.out
   have HPX := Aside0.mk px
   have HPY := Aside0.mk py
   clear hvx hvy hb1 hb2 px py HB1
   by_cases hnm : n = m
   ·subst hnm
    obtain ⟨q, hq, hspec⟩ := all_top (arU_isN HRA.out.2.2) HFN.out HRA.out.2.1 HFL.out
    obtain ⟨ks, hks⟩ := hq.get
    have HKS := Aside0.mk hks
    have hsp : q.isSome = apartV l a b := by
     cases q with
     | none => exact (apartV_no (fun θ hg => by rw [← HFE.out]; exact hspec θ hg)).symm
     | some σ' =>
      obtain ⟨_, ς', h⟩ := hspec
      exact (apartV_yes h.1.good (by rw [← HFE.out]; exact (h.2 ς' h.1.good).2 h.1.resp)).symm
    have HSP := Aside0.mk hsp
    have e1 : (((pcsU l a).length : Int) == ((pcsU l F).length : Int)) = true := by rw [HPX.out.2.1, HPY.out.2.1]; simp
    have e2 : ((pcsU l a).length == (pcsU l F).length) = true := by rw [HPX.out.2.1, HPY.out.2.1]; simp
    have e3 : decide (((pcsU l a).length : Int) = ((pcsU l F).length : Int)) = true := by rw [HPX.out.2.1, HPY.out.2.1]; simp
    have e4 : decide ((pcsU l a).length = (pcsU l F).length) = true := by rw [HPX.out.2.1, HPY.out.2.1]; simp
    clear hq hks hspec hsp
    go_wp2_with fail
    refine (all_calls w2.heap.size A0 c0 l ks (pcsU l a) (pcsU l F) (.slice AX (pcsU l a).length cx) (.slice AY (pcsU l F).length cy) wr.heap.size str0 q wr _ (pair_calls w2.heap.size A0 c0 l wr (below_size HB2.out) HRA.out.1 HR0W.out HC0.out ks) (below_alloc HB2.out _) (below_size HB2.out) (sat_new wr w2) (str0_ok l) (by rw [HPX.out.2.1, HPY.out.2.1]) HPX.out.2.2 HPY.out.2.2 (Kd.R_alloc (Kd.R_mono (Kd.R_bound HVX.out) (fun k hk => by have h7 := hk.2.2.1; show k ≠ w2.heap.size; omega)) _) (Kd.R_alloc (Kd.R_mono (Kd.R_bound HVY.out) (fun k hk => by have h7 := hk.2.2.1; show k ≠ w2.heap.size; omega)) _) HKS.out).mono ?_
    rintro e w3 ⟨rfl, hrun, hkeep, hb3⟩
    rw [HSP.out]
    have HB3 := Aside0.mk (below_step HB.out hb3)
    clear hrun hkeep hb3 HVX HVY HSP HKS
    go_wp2
    go_ret
    exact ⟨by first | rfl | (simp; done), HB3.out⟩
   ·have HAC := Aside0.mk (apartV_count HRA.out.2.2 HRB.out.2.2 hnm)
    have hne : ¬ (pcsU l a).length = (pcsU l F).length := by rw [HPX.out.2.1, HPY.out.2.1]; exact hnm
    have e1 : (((pcsU l a).length : Int) == ((pcsU l F).length : Int)) = false := by simp; omega
    have e2 : ((pcsU l a).length == (pcsU l F).length) = false := by simpa using hne
    have e3 : decide (((pcsU l a).length : Int) = ((pcsU l F).length : Int)) = false := by rw [decide_eq_false_iff_not]; omega
    have e4 : decide ((pcsU l a).length = (pcsU l F).length) = false := by rw [decide_eq_false_iff_not]; exact hne
    have HBE := Aside0.mk (below_step HB.out (below_alloc HB2.out (.cells cells48 79)))
    clear hnm hne
    go_wp2
    go_ret
    exact ⟨by rw [HAC.out]; first | rfl | (simp; done), HBE.out⟩
end Go.Proofs.YteffiodbflmfkaaDoor.PP
