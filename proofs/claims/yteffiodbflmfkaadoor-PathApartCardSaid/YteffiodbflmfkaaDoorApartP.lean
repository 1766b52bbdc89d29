/- Two rows without a variable in common: can they be made the same? The program's answer, walked. -/
import Derived.Test.YteffiodbflmfkaaDoorUniPr
import Derived.Test.YteffiodbflmfkaaDoorPPx0
import Derived.Test.YteffiodbflmfkaaDoorPPx6
namespace Go.Proofs.YteffiodbflmfkaaDoor.PP
open Go Go.RowKit Go.Proofs.YteffiodbflmfkaaDoorW.PrintWords Go.Proofs.YteffiodbflmfkaaDoorW.PrintLast Go.Proofs.YteffiodbflmfkaaDoorW.PrintMore Go.Proofs.YteffiodbflmfkaaDoor
set_option linter.unusedVariables false
set_option linter.unusedSimpArgs false
open Classical in
noncomputable def apartV (l : List S59) (a b : List Int) : Bool := decide (∃ θ, GoodA (arU l) θ ∧ subV θ a = subV θ (b.map (shC 24)))
theorem apartV_yes {l : List S59} {a b : List Int} {θ : Int → List Int} (hg : GoodA (arU l) θ) (h : subV θ a = subV θ (b.map (shC 24))) : apartV l a b = true := by
 classical
 exact decide_eq_true ⟨θ, hg, h⟩
theorem apartV_no {l : List S59} {a b : List Int} (h : ∀ θ, GoodA (arU l) θ → subV θ a ≠ subV θ (b.map (shC 24))) : apartV l a b = false := by
 classical
 exact decide_eq_false (fun ⟨θ, hg, e⟩ => h θ hg e)
theorem far_isN {l : List S59} {n : Nat} {b : List Int} (h : isN (arS l) n b) : isN (arU l) n (b.map (shC 24)) := lg_isN (.inr rfl) b n h
theorem apartV_count {l : List S59} {a b : List Int} {n m : Nat} (ha : isN (arS l) n a) (hb : isN (arS l) m b) (hnm : n ≠ m) : apartV l a b = false := apartV_no (fun θ hg e => by
 have h1 := subA_isN (arU_var l) hg a n (arU_isN ha)
 have h2 := subA_isN (arU_var l) hg _ m (far_isN hb)
 rw [e] at h1
 exact hnm (isN_uniq h1 h2))
theorem same_topA {l : List S59} {a b : List Int} {n : Nat} (hs : SignOk l) (ha : isN (arS l) n a) (hb : isN (arS l) n b) (hla : a.length ≤ 48) (hlb : b.length ≤ 48) :
  ∃ q, Ev (fun k => sameF l k st0 (pairsV l [] (a, 0) (b, 24))) q ∧ q.isSome = apartV l a b := by
 have hsol : Solved (arU l) (tau st0) (fun c => [c]) := by rw [tau_st0]; exact solved_init (arU_var l)
 have pr := parts_flatten ha
 have ps := parts_flatten hb
 rw [← pcs_row ha] at pr
 rw [← pcs_row hb] at ps
 have hll : (pcs l a).length = (pcs l b).length := by rw [pr.2.1, ps.2.1]
 have hfr := fr_le st0
 have htd : TdOk l (pairsV l [] (a, 0) (b, 24)) := by
  unfold pairsV
  rw [List.nil_append]
  intro z hz
  obtain ⟨z1, z2, z3, z4⟩ := zip_mem hz
  have q1 := (pcs_mem a.length a (Nat.le_refl _)).2 _ z1
  have q2 := (pcs_mem b.length b (Nat.le_refl _)).2 _ z3
  exact ⟨⟨q1.1, .inl z2, by omega⟩, ⟨q2.1, .inr z4, by omega⟩⟩
 obtain ⟨q, h1, h2⟩ := same_ev hs (fr st0) _ st0 (pairsV l [] (a, 0) (b, 24)) _ (Nat.le_refl _) (Nat.le_refl _) (st0_ok l) hsol htd (by
  obtain ⟨h, hr⟩ := hsol.rank (arU_var l)
  refine ⟨h, hr, fun i e hi => ⟨2400, hr.any ?_, ?_⟩⟩
  ·rw [lg_length]
   exact (htd e (List.mem_of_getElem? hi)).1.len
  ·have hlt := (List.getElem?_eq_some_iff.1 hi).1
   have hz : (pairsV l [] (a, 0) (b, 24)).length = (pcs l a).length := by
    unfold pairsV
    rw [List.nil_append]
    exact zip_len _ _ hll
   have hle := (pcs_mem (l := l) a.length a (Nat.le_refl _)).1
   omega)
 have hu : ∀ θ, GoodA (arU l) θ → (UniP θ (pairsV l [] (a, 0) (b, 24)) ↔ subV θ a = subV θ (b.map (shC 24))) := by
  intro θ hg
  have hz := zip_uni (b := 0) (b' := 24) (.inl rfl) (.inr rfl) hg (pcs l a) (pcs l b) hll pr.2.2 ps.2.2
  rw [pr.1, ps.1, map_sh0] at hz
  unfold pairsV
  rw [List.nil_append]
  exact hz
 have hr0 : ∀ θ, Resp θ (tau st0) := by
  intro θ c _ h
  rw [tau_st0] at h
  exact absurd rfl h
 refine ⟨q, h1, ?_⟩
 cases q with
 | none => exact (apartV_no (fun θ hg e => h2 θ hg (hr0 θ) ((hu θ hg).2 e))).symm
 | some σ' =>
  obtain ⟨a1, ⟨ς', a2⟩, a3⟩ := h2
  exact (apartV_yes a2.good ((hu ς' a2.good).1 ((a3 ς' a2.good).2 a2.resp).2)).symm
theorem row_pcrA {l : List S59} {w : World} {A : Option Addr} {c n : Nat} {a : List Int} (h : Row l n a) (hC : Kd.C (Kd.int .i64) w A a.length a) (hc : a.length ≤ c) : PcR w (a, 24) A c :=
 ⟨hc, hC, ⟨h.2.1, (row_pcr h hC hc).ok.lo, Nat.le_refl 24⟩⟩
set_option maxHeartbeats 1000000 in
set_option maxRecDepth 100000 in
theorem apart_calls (A0 : Option Addr) (c0 : Nat) (l : List S59) (A1 : Option Addr) (c1 : Nat) (a : List Int) (A2 : Option Addr) (c2 : Nat) (b : List Int) (w : World)
  (hr0 : Kd.C k59 w A0 l.length l) (hc0 : l.length ≤ c0) (hr1 : Kd.C (Kd.int .i64) w A1 a.length a) (hc1 : a.length ≤ c1) (hr2 : Kd.C (Kd.int .i64) w A2 b.length b) (hc2 : b.length ≤ c2) (hG : Glob w) (hia : IsRow l a) (hib : IsRow l b) :
  Calls Tryd.prog 58 #[.slice A0 l.length c0, .slice A1 a.length c1, .slice A2 b.length c2] w fun e w' => e = .returned (.bool (apartV l a b)) ∧ Below w.heap.size w w' := by
 have hup := Tryd.underlying87
 have hur := Tryd.underlying90
 obtain ⟨ka, na, ea, hka, hca⟩ := row_res l a
 obtain ⟨kb, nb, eb, hkb, hcb⟩ := row_res l b
 obtain ⟨n, hra, rfl, rfl⟩ := hca.resolve_right (fun h => h.1 hia)
 obtain ⟨m, hrb, rfl, rfl⟩ := hcb.resolve_right (fun h => h.1 hib)
 have HR0 := Aside0.mk hr0
 have HR1 := Aside0.mk hr1
 have HR2 := Aside0.mk hr2
 have HC0 := Aside0.mk hc0
 have HC1 := Aside0.mk hc1
 have HC2 := Aside0.mk hc2
 have HKA := Aside0.mk hka
 have HKB := Aside0.mk hkb
 have HRA := Aside0.mk hra
 have HRB := Aside0.mk hrb
 clear hr0 hr1 hr2 hc0 hc1 hc2 hka hkb hca hcb hia hib hra hrb
 go_enter Tryd.func58, Tryd.ntmps58
 go_wp2_with fail
 refine (term_Row.calls ka _ _ l _ _ a _ _ _ HR0.out HC0.out HR1.out HC1.out HKA.out hG).mono ?_
 rintro e w1 ⟨rfl, hb1⟩
 have HB1 := Aside0.mk hb1
 clear hb1
 go_wp2_with fail
 refine (term_Row.calls kb _ _ l _ _ b _ _ _ (Kd.C_below HR0.out HB1.out) HC0.out (Kd.C_below HR2.out HB1.out) HC2.out HKB.out (hG.below HB1.out)).mono ?_
 rintro e w2 ⟨rfl, hb2⟩
 have HB2 := Aside0.mk (below_step HB1.out hb2)
 clear hb2 HB1 hG HKA HKB
 by_cases hnm : n = m
 ·subst hnm
  obtain ⟨q, hq, hspec⟩ := same_topA HRA.out.1 HRA.out.2.2 HRB.out.2.2 HRA.out.2.1 HRB.out.2.1
  obtain ⟨ks, hks⟩ := hq.get
  have HKS := Aside0.mk hks
  have HSP := Aside0.mk hspec
  have hpl : (pcs l a).length ≤ (pcs l b).length := by
   have h1 := (parts_flatten HRA.out.2.2).2.1
   have h2 := (parts_flatten HRB.out.2.2).2.1
   rw [← pcs_row HRA.out.2.2] at h1
   rw [← pcs_row HRB.out.2.2] at h2
   omega
  have HPL := Aside0.mk hpl
  have e1 : ((n : Int) == (n : Int)) = true := by simp
  clear hq hks hspec hpl
  go_wp2_with fail
  refine (same_calls w2.heap.size A0 c0 l st0 ks (a, 0) (b, 24) A1 A2 c1 c2 q w _ (below_alloc HB2.out _) (below_size HB2.out) (run_new w w2 _) HRA.out.1 HR0.out HC0.out (row_pcr HRA.out HR1.out HC1.out) (row_pcrA HRB.out HR2.out HC2.out) HPL.out HKS.out).mono ?_
  rintro e w3 ⟨rfl, hrun, hkeep, hb3⟩
  rw [HSP.out]
  have HB3 := Aside0.mk hb3
  clear hrun hkeep hb3 HSP HKS
  go_wp2
  go_ret
  exact ⟨by first | rfl | (simp; done), HB3.out⟩
 ·have e1 : ((n : Int) == (m : Int)) = false := by simp; omega
  have e2 : (n == m) = false := by simpa using hnm
  have e3 : decide ((n : Int) = (m : Int)) = false := by rw [decide_eq_false_iff_not]; omega
  have e4 : decide (n = m) = false := by rw [decide_eq_false_iff_not]; omega
  have HAC := Aside0.mk (apartV_count HRA.out.2.2 HRB.out.2.2 hnm)
  clear hnm
  go_wp2
  go_ret
  exact ⟨by rw [HAC.out]; first | rfl | (simp; done), below_alloc HB2.out _⟩
end Go.Proofs.YteffiodbflmfkaaDoor.PP
