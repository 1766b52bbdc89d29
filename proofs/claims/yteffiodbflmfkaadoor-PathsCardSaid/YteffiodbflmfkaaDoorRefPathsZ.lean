/- The document's paths: their walk. -/
import Derived.Test.YteffiodbflmfkaaDoorPathRZ
import Derived.Test.YteffiodbflmfkaaDoorUniRfZ
import Derived.Test.YteffiodbflmfkaaDoorPPx0
namespace Go.Proofs.YteffiodbflmfkaaDoor.PP
open Go Go.RowKit Go.Proofs.YteffiodbflmfkaaDoorW.PrintWords Go.Proofs.YteffiodbflmfkaaDoorW.PrintLast Go.Proofs.YteffiodbflmfkaaDoor
set_option linter.unusedVariables false
set_option linter.unusedSimpArgs false
theorem pathR_succ {l : List S59} {k : Nat} {way t : List Int} (h : t.length ≤ k + 1) : pathR l k way t = (way ++ [endC (rd t 0)]) :: pathRs (pathR l (k - 1)) way 0 (pcsU l (t.drop 1)) := by
  cases k with
  | zero =>
    have : t.drop 1 = [] := List.drop_eq_nil_of_le (by omega)
    rw [this, pcsU_nil]
    rfl
  | succ k => rfl
theorem pathRs_drop (f : List Int → List Int → List (List Int)) (way : List Int) (i : Nat) (ps : List (List Int)) (h : i < ps.length) : pathRs f way i (ps.drop i) = f (way ++ [(i : Int)]) (ps.getD i []) ++ pathRs f way (i + 1) (ps.drop (i + 1)) := by
  rw [List.drop_eq_getElem_cons h, List.getD_eq_getElem?_getD, List.getElem?_eq_getElem h]
  rfl
end Go.Proofs.YteffiodbflmfkaaDoor.PP
namespace Go.Proofs.YteffiodbflmfkaaDoor.PP
open Go Go.RowKit Go.Proofs.YteffiodbflmfkaaDoorW.PrintWords Go.Proofs.YteffiodbflmfkaaDoorW.PrintLast Go.Proofs.YteffiodbflmfkaaDoorW.PrintMore Go.Proofs.YteffiodbflmfkaaDoor
set_option linter.unusedVariables false
set_option linter.unusedSimpArgs false
abbrev dR : Kd (List Int) := Kd.slice 3 (Kd.int .i64)
theorem rows_reads {e b base : Nat} {W : World} {v : Value} {xs : List (List Int)} (h : dR.R e W b (fun _ => True) v xs) (hb : base ≤ b) : ∃ A c, v = .slice A xs.length c ∧ xs.length ≤ c ∧ ReadsRow (dR.M W base (fun k => b ≤ k)) 1 W A xs.length xs := by
  obtain ⟨A, c, rfl, hc, hr⟩ := (Kd.R_bound h).2.reads
  exact ⟨A, c, rfl, hc, hr.imp_ (Below.refl _ _) (fun _ _ hp => dR.M_lower hb (dR.M_mono (fun k hk => hk.1.2.1) hp))⟩
theorem reps_single {W : World} {base : Nat} {v : Value} {x : List Int} (h : (Kd.int .i64).R 3 W base (fun _ => True) v x) : Reps (dR.M W base (fun _ => True)) dR.sz [x] [v] := by
  refine ⟨rfl, fun j p hj => ?_⟩
  cases j with
  | zero =>
    obtain rfl := Option.some.inj hj
    exact ⟨v, rfl, h⟩
  | succ j => cases hj
theorem rw_ok {w0 W : World} {e base : Nat} {ok ok' : Nat → Prop} {v : Value} {ps : List (List Int)} (h : (kRW w0).R e W base ok v ps) (h' : ∀ k, v.ownBlock = some k → ok' k) : (kRW w0).R e W base ok' v ps := by
  obtain ⟨_, inner, ho, hr⟩ := h
  exact ⟨h', inner, ho, hr.1, fun j p hj => hr.2 j p hj⟩
/-- A row of rows is as it was where another one grew. -/
theorem rw_next {w0 W w1 : World} {e base : Nat} {u v v1 : Value} {ps : List (List Int)} (h : (kRW w0).R e W base (fun k => some k ≠ u.ownBlock) v ps) (hg : W.grownBy w1 u.ownBlock) (hat : v1.ownBlock = u.ownBlock ∨ ∃ b, v1.ownBlock = some b ∧ W.heap.size ≤ b) : (kRW w0).R e w1 base (fun k => some k ≠ v1.ownBlock) v ps := by
  have h1 := Kd.R_grown h hg (fun k hk => hk)
  refine rw_ok h1 (fun k hk e => ?_)
  have hb := (Kd.R_bound h).1 k hk
  rcases hat with ha | ⟨b, hb2, hlt⟩
  · exact hb.1 (by rw [← ha]; exact e)
  · rw [hb2] at e
    injection e with e
    have := hb.2.2.1
    omega
theorem infoRowP : (Tryd.prog.info? 23).map (fun i => (i.zero, i.size, i.bytes)) = some (some (.slice none 0 0), 1, 24) := by kernel_rfl
attribute [local go_sem] max2_int min2_int max_two min_two
set_option maxHeartbeats 4000000 in
set_option maxRecDepth 100000 in
theorem refPaths_calls (A0 : Option Addr) (c0 : Nat) (l : List S59) (hs : SignOk l) (hc0 : l.length ≤ c0) : ∀ (k : Nat) (way t : List Int) (A1 : Option Addr) (c1 : Nat) (A2 : Option Addr) (c2 : Nat) (w : World),
    Kd.C k59 w A0 l.length l → t.length ≤ k + 1 → TextB l t → way.length + t.length ≤ 100 → Kd.C (Kd.int .i64) w A1 way.length way → way.length ≤ c1 → Kd.C (Kd.int .i64) w A2 t.length t → t.length ≤ c2 →
    Calls Tryd.prog 28 #[.slice A0 l.length c0, .slice A1 way.length c1, .slice A2 t.length c2] w fun e w' =>
      ∃ v, e = .returned v ∧ dR.R 23 w' w.heap.size (fun _ => True) v (pathR l k way t) ∧ Below w.heap.size w w' := by
  have HS := Aside0.mk hs
  have HC0 := Aside0.mk hc0
  clear hs hc0
  intro k
  induction k using Nat.strongRecOn with
  | _ k ih =>
  intro way t A1 c1 A2 c2 w hr0 hk ht hwl hr1 hc1 hr2 hc2
  have IH := Aside0.mk ih
  have HR0 := Aside0.mk hr0
  have HR1 := Aside0.mk hr1
  have HR2 := Aside0.mk hr2
  have HC1 := Aside0.mk hc1
  have HC2 := Aside0.mk hc2
  have HT := Aside0.mk ht
  have HWL := Aside0.mk hwl
  have HK := Aside0.mk hk
  have hlen := pathR_len k way t hk ht
  rw [pathR_succ hk] at hlen ⊢
  have hpos := List.length_pos_iff.2 ht.ne
  have h49 : t.length ≤ 49 := by have := ht.len; rw [List.length_drop] at this; omega
  have H49 := Aside0.mk h49
  obtain ⟨m, hm⟩ := ht.row
  obtain ⟨f1, f2, f3⟩ := pcsU_facts hm ht.len
  have HM := Aside0.mk hm
  have HPART := Aside0.mk (show ∀ p, p ∈ pcsU l (t.drop 1) → TextB l p ∧ p.length ≤ t.length - 1 from fun p hp => textB_part ht hp)
  obtain ⟨R, hR⟩ : ∃ R, R = (way ++ [endC (rd t 0)]) :: pathRs (pathR l (k - 1)) way 0 (pcsU l (t.drop 1)) := ⟨_, rfl⟩
  rw [← hR] at hlen ⊢
  have HRR := Aside0.mk hR
  have HLEN := Aside0.mk hlen
  have HPL := Aside0.mk (show (pcsU l (t.drop 1)).length ≤ 49 by
    have hh := flat_le (pcsU l (t.drop 1)) (fun p hp => (textB_part ht hp).1.ne)
    rw [f1, List.length_drop] at hh
    omega)
  clear hr0 hr1 hr2 hc1 hc2 hwl hk ht ih hm f1 f2 f3 hR hlen h49
  obtain ⟨c, hc⟩ : ∃ c, c = rd t 0 := ⟨_, rfl⟩
  have hg2 : (0 : Int) < (t.length : Int) := by omega
  obtain ⟨ad, rfl, hx⟩ := Kd.at_int HR2.out 0 (by omega) (by omega)
  rw [show ((0 : Int)).toNat = 0 from rfl, Addr.add_zero'] at hx
  rw [← hc] at hx HRR
  obtain ⟨M, hM⟩ : ∃ M, M = endC c := ⟨_, rfl⟩
  have hji : (if c < -1 then (-1 : Int) else c) = M := hM.symm
  rw [← hM] at HRR
  have HX := Aside0.mk hx
  clear hc hx hM
  obtain ⟨j0, hj0', _, hjs, _⟩ := info_parts info3
  have hcx := cut_from (P := Tryd.prog) 23 3 .i64 Tryd.underlying23 hj0' 1 hjs (some ad) t.length c2 1 (by omega) (by omega)
  have hrx := Kd.C_drop (m := 1) (c := c2) HR2.out (by omega) HC2.out
  have t1 : (1 : Int).toNat = 1 := rfl
  rw [t1] at hcx
  obtain ⟨XT, hXT⟩ : ∃ XT, XT = (if c2 = 1 then some ad else (some ad : Option Addr).map (·.add (1 * 1))) := ⟨_, rfl⟩
  rw [← hXT] at hcx
  have HRX := Aside0.mk (show Kd.C (Kd.int .i64) w XT (t.drop 1).length (t.drop 1) by rw [hXT]; exact hrx)
  clear hrx hXT hj0' hjs
  go_enter Tryd.func28, Tryd.ntmps28
  go_wp2_with (first | ((with_reducible refine gate_dst (N := 12) rfl ?_); refine Kd.R_lit (Kd.int .i64) w.heap.size 3 ?hg (N := 12) ?hd (xs := ([] : List Int)) (inner := []) (ok := fun _ => True) (okp := fun _ => True) ?hr ?hp (fun _ hk => hk) trivial (Below.refl _ _) (Nat.le_refl _) (by simp) ?_; (case hd => rfl); (case hg => rfl); (case hr => first | (go_simp; done) | (go_simp; rfl)); (case hp => exact (Reps.none _ _)); intro v12 w1_ ho hb hg_ hnew_; have n0 := Aside0.mk ho; have n1 := Aside0.mk hb; clear ho hb hg_ hnew_) | ((with_reducible refine gate_builtin (b := .append) (xs := #[.tmp 12, .tmp 13]) rfl ?_); at_builtin; refine Kd.R_append_rows (Kd.int .i64) (w0 := w) w.heap.size rfl (.tmp 12) (.tmp 13) 23 3 (.int .i64 0) 8 rfl Tryd.underlying23 info3 rfl (by decide) (by omega) v12 [] way _ _ _ (fun _ => True) (fun _ => False) rfl rfl ?aO ?aR (fun _ _ h => h) (fun _ h => h.elim) ?aF ?aB ?aS ?aL ?_; (case aR => exact Kd.C_below HR1.out n1.out); (case aB => exact n1.out); (case aF => exact (fun _ _ => trivial)); (case aO => exact n0.out); (case aS => exact below_size n1.out); (case aL => have := HWL.out; simp only [List.length_nil]; omega); intro v14 w14 ho hb hg hat; rw [List.nil_append] at ho; have HO14 := Aside0.mk ho; have HB14 := Aside0.mk hb; have hx14 := pw_cell_below hb HX.out; clear ho hb hg hat n0 n1) | ((with_reducible refine gate_builtin (b := .append) (xs := #[.tmp 15, .tmp 20]) rfl ?_); at_builtin; refine Kd.R_append (Kd.int .i64) (w0 := w) w.heap.size rfl (.tmp 15) (.tmp 20) 23 3 (.int .i64 0) 8 rfl Tryd.underlying23 info3 rfl (by decide) (by omega) v14 way (M) [.int .i64 (M)] (fun _ => True) (fun _ => False) rfl rfl ?aP (fun _ hk => hk.elim) ?aF ?aO ?aB ?aS ?aL ?_; (case aP => rfl); (case aF => exact fun _ _ => trivial); (case aO => exact HO14.out); (case aB => exact HB14.out); (case aS => exact below_size HB14.out); (case aL => have := HWL.out; omega); intro v21 w21 ho hb hg hat; obtain ⟨OA, oc, rfl⟩ := Kd.R_slice ho; have HO21 := Aside0.mk ho; have HB21 := Aside0.mk hb; clear ho hb hg hat) | ((with_reducible refine gate_dst (N := 23) rfl ?_); refine Kd.R_lit dR w.heap.size 23 ?hg (N := 23) ?hd (xs := [way ++ [M]]) (inner := [.slice OA (way ++ [M]).length oc]) (ok := fun _ => True) (okp := fun _ => True) ?hr ?hp (fun _ hk => hk) trivial HB21.out (below_size HB21.out) (by simp) ?_; (case hd => rfl); (case hg => rfl); (case hr => first | (go_simp; done) | (go_simp; rfl)); (case hp => exact reps_single HO21.out); intro v23 w23 ho hb hg_ hnew_; have HO23 := Aside0.mk ho; have HB23 := Aside0.mk hb; clear ho hb hg_ hnew_))
  have hpc := partsU_calls A0 c0 l XT (c2 - 1) (t.drop 1) m w w23 HB23.out HS.out (by rw [List.length_drop]; have := H49.out; omega) HM.out (Kd.C_below HR0.out HB23.out) HC0.out HRX.out (by rw [List.length_drop]; have := HC2.out; omega)
  rw [List.length_drop] at hpc
  refine hpc.mono ?_
  clear hpc hcx
  rintro e w3 ⟨vp, rfl, hvp, hb3⟩
  obtain ⟨ps, hps⟩ : ∃ ps, ps = pcsU l (t.drop 1) := ⟨_, rfl⟩
  rw [← hps] at hvp HRR HPART HPL
  obtain ⟨PA, pc, rfl⟩ := Kd.R_slice hvp
  have hne : ∀ k, (Value.slice PA ps.length pc).ownBlock = some k → some k ≠ v23.ownBlock := fun k hk e => by
    have h1 := ((Kd.R_bound hvp).1 k hk).2.1
    have h2 := ((Kd.R_bound HO23.out).1 k e.symm).2.2.1
    omega
  have HVP := Aside0.mk (Kd.R_lower (rw_ok hvp hne) (below_size HB23.out))
  have HB3 := Aside0.mk (below_step HB23.out hb3)
  have HO3 := Aside0.mk (Kd.R_below HO23.out hb3)
  have HB3S := Aside0.mk (below_size HB3.out)
  clear hvp hb3 hps hne HO23 HRX HO14 HB14 HO21 HB21 HM hx14
  go_wp2
  go_loopg [8, 10] (ps.length + 1) (fun kq v8 v10 w' => ∃ (i : Nat) (out : List (List Int)), v10 = .int .i64 (i : Int) ∧ Aside0 (i ≤ ps.length ∧ kq + i = ps.length + 1) ∧ Aside0 (out ++ pathRs (pathR l (k - 1)) way i (ps.drop i) = R) ∧ Aside0 (dR.R 23 w' w.heap.size (fun _ => True) v8 out) ∧ Aside0 ((kRW w).R 23 w' w.heap.size (fun k => some k ≠ v8.ownBlock) (.slice PA ps.length pc) ps) ∧ Aside0 (Below w.heap.size w w'))
  case atStart => exact ⟨0, [way ++ [M]], rfl, ⟨by omega, by omega⟩, ⟨by rw [HRR.out]; simp⟩, HO3, HVP, HB3⟩
  case round =>
    clear HRR HO3 HVP HB3 HB3S
    obtain ⟨i, out, rfl, HI, HR, HO, HVP, HBW⟩ := hrel
    by_cases hi : i < ps.length
    · have hi0 : (0 : Int) ≤ (i : Int) := by omega
      have hi1 : (i : Int) < (ps.length : Int) := by omega
      have d0 : decide ((i : Int) < (ps.length : Int)) = true := by rw [decide_eq_true_eq]; omega
      have d00 : decide (i < ps.length) = true := by rw [decide_eq_true_eq]; omega
      have HI2 := Aside0.mk hi
      obtain ⟨g, cap, EA, ec, hve, _, _, hcell, hec, hrow, _⟩ := rw_at HVP.out i hi
      injection hve with g1 g2 g3
      subst g1 g3
      have HEC := Aside0.mk hec
      have HROW := Aside0.mk hrow
      clear g2 hec hrow
      have hol : out.length ≤ 49 := by
        have := congrArg List.length HR.out
        rw [List.length_append] at this
        have := HLEN.out
        have := H49.out
        omega
      have HOL := Aside0.mk hol
      have HW1 := Aside0.mk (wrap_nat i (by have := HPL.out; omega))
      clear hol
      have HR2 := Aside0.mk (show (out ++ pathR l (k - 1) (way ++ [(i : Int)]) (ps.getD i [])) ++ pathRs (pathR l (k - 1)) way (i + 1) (ps.drop (i + 1)) = R by
        rw [List.append_assoc, ← pathRs_drop _ _ _ _ hi]
        exact HR.out)
      obtain ⟨p, hp⟩ : ∃ p, p = ps.getD i [] := ⟨_, rfl⟩
      have hpm : p ∈ ps := by
        rw [hp, List.getD_eq_getElem?_getD, List.getElem?_eq_getElem hi]
        exact List.getElem_mem _
      have HP := Aside0.mk (HPART.out p hpm)
      rw [← hp] at HR2 hcell HEC HROW
      have HPE := Aside0.mk hp
      clear hpm hp hi HR
      have HR1R := Aside0.mk (Kd.C_below HR1.out HBW.out)
      go_wp2_with (first | ((with_reducible refine gate_dst (N := 34) rfl ?_); refine Kd.R_lit (Kd.int .i64) wr.heap.size 3 ?hg (N := 34) ?hd (xs := ([] : List Int)) (inner := []) (ok := fun _ => True) (okp := fun _ => True) ?hr ?hp (fun _ hk => hk) trivial (Below.refl _ _) (Nat.le_refl _) (by simp) ?_; (case hd => rfl); (case hg => rfl); (case hr => first | (go_simp; done) | (go_simp; rfl)); (case hp => exact (Reps.none _ _)); intro v34 w1_ ho hb hg_ hnew_; have n0 := Aside0.mk ho; have n1 := Aside0.mk hb; clear ho hb hg_ hnew_) | ((with_reducible refine gate_builtin (b := .append) (xs := #[.tmp 34, .tmp 35]) rfl ?_); at_builtin; refine Kd.R_append_rows (Kd.int .i64) (w0 := wr) wr.heap.size rfl (.tmp 34) (.tmp 35) 23 3 (.int .i64 0) 8 rfl Tryd.underlying23 info3 rfl (by decide) (by omega) v34 [] way _ _ _ (fun _ => True) (fun _ => False) rfl rfl ?aO ?aR (fun _ _ h => h) (fun _ h => h.elim) ?aF ?aB ?aS ?aL ?_; (case aR => exact Kd.C_below HR1R.out n1.out); (case aB => exact n1.out); (case aF => exact (fun _ _ => trivial)); (case aO => exact n0.out); (case aS => exact below_size n1.out); (case aL => have := HWL.out; simp only [List.length_nil]; omega); intro v36 w36 ho hb hg hat; rw [List.nil_append] at ho; have HO36 := Aside0.mk ho; have HB36 := Aside0.mk hb;  clear ho hb hg hat n0 n1) | ((with_reducible refine gate_builtin (b := .append) (xs := #[.tmp 37, .tmp 39]) rfl ?_); at_builtin; refine Kd.R_append (Kd.int .i64) (w0 := wr) wr.heap.size rfl (.tmp 37) (.tmp 39) 23 3 (.int .i64 0) 8 rfl Tryd.underlying23 info3 rfl (by decide) (by omega) v36 way ((i : Int)) [.int .i64 ((i : Int))] (fun _ => True) (fun _ => False) rfl rfl ?aP (fun _ hk => hk.elim) ?aF ?aO ?aB ?aS ?aL ?_; (case aP => rfl); (case aF => exact fun _ _ => trivial); (case aO => exact HO36.out); (case aB => exact HB36.out); (case aS => exact below_size HB36.out); (case aL => have := HWL.out; omega); intro v40 w40 ho hb hg hat; obtain ⟨NA, nc, rfl⟩ := Kd.R_slice ho; have HO40 := Aside0.mk ho; have HB40 := Aside0.mk hb; have hcell40 := pw_cell_below hb hcell; clear ho hb hg hat))
      have HB43 := Aside0.mk (below_step HBW.out HB40.out)
      have hcl := IH.out (k - 1) (by have := HP.out.2; have := HK.out; have := List.length_pos_iff.2 HP.out.1.ne; omega) (way ++ [(i : Int)]) p NA nc EA ec w40 (Kd.C_below HR0.out HB43.out) (by have := HP.out.2; have := HK.out; omega) HP.out.1 (by have := HP.out.2; have := HWL.out; rw [List.length_append, List.length_singleton]; omega) (Kd.R_reads' HO40.out).2.2 (Kd.R_reads' HO40.out).2.1 (Kd.C_below HROW.out HB43.out) HEC.out
      rw [List.length_append, List.length_singleton] at hcl
      refine hcl.mono ?_
      clear hcl
      rintro e w5 ⟨v5, rfl, hv5, hb5⟩
      have hl5 : (pathR l (k - 1) (way ++ [(i : Int)]) p).length ≤ 49 := by
        have h1 := pathR_len (l := l) (k - 1) (way ++ [(i : Int)]) p (by have := HP.out.2; have := HK.out; omega) HP.out.1
        have := HP.out.2
        have := H49.out
        omega
      obtain ⟨Q, hQ⟩ : ∃ Q, Q = pathR l (k - 1) (way ++ [(i : Int)]) p := ⟨_, rfl⟩
      rw [← hQ] at hv5 hl5 HR2
      obtain ⟨QA, qc, rfl, hqc, hrr⟩ := rows_reads (base := w.heap.size) hv5 (below_size HB43.out)
      have HO5 := Aside0.mk (Kd.R_below (Kd.R_below HO.out HB40.out) hb5)
      have HOLT := Aside0.mk (show ∀ k, u8.ownBlock = some k → k < w40.heap.size from fun k hk => ((Kd.R_bound (Kd.R_below HO.out HB40.out)).1 k hk).2.2.1)
      have HB5 := Aside0.mk (below_step HB43.out hb5)
      have HVP5 := Aside0.mk (Kd.R_below (Kd.R_below HVP.out HB40.out) hb5)
      have HQR := Aside0.mk hrr
      have HQL := Aside0.mk hl5
      clear hv5 hqc hrr hb5 hl5 hQ HO40 HB40 HO HVP HBW HR1R HROW HEC hcell40
      go_wp2_with (first | ((with_reducible refine gate_builtin (b := .append) (xs := #[.tmp 41, .tmp 48]) rfl ?_); at_builtin; refine Kd.R_append_rows dR (w0 := w) w.heap.size rfl (.tmp 41) (.tmp 48) 25 23 (.slice none 0 0) 24 rfl Tryd.underlying25 infoRowP rfl Nat.zero_lt_one (by omega) u8 out Q _ _ _ (fun _ => True) (fun k => w40.heap.size ≤ k) rfl rfl ?aO ?aR (fun _ _ h => h) ?aK ?aF ?aB ?aS ?aL ?_; (case aR => exact HQR.out); (case aK => intro k hk; exact ⟨trivial, fun e => by have := HOLT.out k e.symm; omega⟩); (case aB => exact HB5.out); (case aF => exact (fun _ _ => trivial)); (case aO => exact HO5.out); (case aS => exact below_size HB5.out); (case aL => have := HQL.out; have := HOL.out; omega); intro v8 w8 ho hb hg hat; have n0_ := Aside0.mk hb; have n1_ := Aside0.mk ho; have n2_ := Aside0.mk hg; have n3_ := Aside0.mk hat; clear ho hb hg hat))
      have HVP8 := Aside0.mk (rw_next HVP5.out n2_.out n3_.out)
      go_roundg (gk - 1)
      case measure => have := HI.out; omega
      case rel => exact ⟨i + 1, out ++ Q, by first | exact congrArg (Value.int .i64) HW1.out | rfl | go_num | (simp; done), ⟨by have := HI2.out; omega, by have := HI.out; omega⟩, HR2, n1_, HVP8, n0_⟩
    · have hil : i = ps.length := by have := HI.out; omega
      subst hil
      have hR2 : out = R := by
        rw [← HR.out, List.drop_length]
        simp [pathRs]
      subst hR2
      have d0 : decide ((ps.length : Int) < (ps.length : Int)) = false := by rw [decide_eq_false_iff_not]; omega
      clear hi HR
      go_wp2
      go_ret
      exact ⟨_, rfl, HO.out, HBW.out⟩
end Go.Proofs.YteffiodbflmfkaaDoor.PP
