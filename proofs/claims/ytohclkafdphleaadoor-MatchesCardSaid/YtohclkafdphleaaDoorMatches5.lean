/- Matches: its walk (rows lent with room, what is told written over), and that it answers true. -/
import Derived.Test.YtohclkafdphleaaDoorLend
import Derived.Test.YtohclkafdphleaaDoorStore
import Derived.Test.YtohclkafdphleaaDoorAwake5
import Derived.Test.YtohclkafdphleaaDoorPMx0
import Derived.Test.YtohclkafdphleaaDoorPMx5
import Derived.Test.YtohclkafdphleaaDoorPMx9
import Derived.Test.YtohclkafdphleaaDoorPMx10
namespace Go.Proofs.YtohclkafdphleaaDoor.PM
open Go Go.RowKit Go.Proofs.YtohclkafdphleaaDoorW.PrintWords Go.Proofs.YtohclkafdphleaaDoorW.PrintLast Go.Proofs.YtohclkafdphleaaDoorW.PrintMore Go.Proofs.YtohclkafdphleaaDoor
set_option linter.unusedVariables false
set_option linter.unusedSimpArgs false
theorem sameBinds_loop (s : List S41) (hs : s.length ≤ 1000) (hb : ∀ b ∈ s, b.f1.length ≤ 48) : ∀ (d i : Nat), s.length - i = d → i ≤ s.length → Ev (fun k => quaerelaw0_SameBinds.l0 k s s (i : Int)) true := by
  intro d
  induction d with
  | zero =>
    intro i hd hi
    exact Ev.step (fun k => rfl) (Ev.if_neg (by omega) (Ev.some_ rfl))
  | succ d ih =>
    intro i hd hi
    refine Ev.step (fun k => rfl) (Ev.if_pos (by omega) (Ev.if_pos (by omega) (Ev.if_pos (by omega) (Ev.if_pos rfl ?_))))
    have hm : (rd_T41 s (i : Int)).f1.length ≤ 48 := by
      unfold rd_T41
      rw [Int.toNat_natCast, List.getD_eq_getElem?_getD, List.getElem?_eq_getElem (by omega)]
      exact hb _ (List.getElem_mem _)
    refine Ev.bind (sameInts_ev _ _ (by omega)) ?_
    refine Ev.if_pos (by simp) ?_
    rw [wrap_nat i (by omega)]
    exact ih (i + 1) (by omega) (by omega)
theorem sameBinds_ev (s : List S41) (hs : s.length ≤ 1000) (hb : ∀ b ∈ s, b.f1.length ≤ 48) : Ev (fun k => quaerelaw0_SameBinds.f k s s) true := by
  unfold quaerelaw0_SameBinds.f
  exact Ev.if_pos rfl (sameBinds_loop s hs hb s.length 0 rfl (Nat.zero_le _))
theorem listTo_short (σ : List (List Int)) (h : ∀ t ∈ σ, t.length ≤ 48) : ∀ n, n ≤ σ.length → ∀ b ∈ listTo σ n, b.f1.length ≤ 48
  | 0, _, b, hb => by simp [listTo] at hb
  | n + 1, hn, b, hb => by
    simp only [listTo, List.mem_append] at hb
    rcases hb with hb | hb
    · exact listTo_short σ h n (by omega) b hb
    · unfold bindOf at hb
      split at hb
      · rename_i x e
        split at e
        · obtain rfl := Option.some.inj e
          obtain rfl : b = _ := by simpa using hb
          show (σ.getD n []).length ≤ 48
          rw [List.getD_eq_getElem?_getD, List.getElem?_eq_getElem (by omega)]
          exact h _ (List.getElem_mem _)
        · cases e
      · simp at hb
theorem growV_length {l : List S73} {b : List Int} : ∀ (a : List Int) (i : Nat) (σ σ' : List (List Int)), growV l b a i σ = some σ' → σ'.length = σ.length := by
  intro a
  induction a with
  | nil =>
    intro i σ σ' e
    simp only [growV] at e
    split at e
    · obtain rfl := Option.some.inj e; rfl
    · cases e
  | cons c a ih =>
    intro i σ σ' e
    simp only [growV] at e
    split at e
    · cases e
    · split at e
      · split at e
        · exact ih _ _ _ e
        · cases e
      · split at e
        · cases e
        · split at e
          · rw [ih _ _ _ e, List.length_set]
          · split at e
            · exact ih _ _ _ e
            · cases e
theorem matchV_short (l : List S73) (a b : List Int) : (matchV l a b).1.length ≤ 24 ∧ ∀ x ∈ (matchV l a b).1, x.f1.length ≤ 48 := by
  by_cases hr : IsRow l a ∧ IsRow l b
  · rw [matchV_ok hr.1 hr.2]
    cases e : growV l b a 0 (List.replicate 24 []) with
    | none => exact ⟨by simp, fun x hx => by simp at hx⟩
    | some σ =>
      have hL := growV_len (by obtain ⟨n, _, h, _⟩ := hr.2; exact h) a 0 _ σ (fun t ht => by rw [(List.mem_replicate.1 ht).2]; simp) e
      have hn := growV_length a 0 _ σ e
      rw [List.length_replicate] at hn
      exact ⟨listTo_length σ 24, listTo_short σ hL 24 (by omega)⟩
  · rw [matchV_bad hr]
    exact ⟨by simp, fun x hx => by simp at hx⟩
open Classical in
theorem refMatch_ev (l : List S73) (a b : List Int) : Ev (fun k => quaereref1_Match.f k l a b) (matchV l a b) := by
  unfold quaereref1_Match.f
  refine Ev.bind (ref_may_ev l) ?_
  by_cases hs : SignOk l
  · refine Ev.if_pos (signB_true.2 hs) ?_
    refine Ev.bind (terms_ev hs a) ?_
    by_cases ha : IsRow l a
    · obtain ⟨n, hn⟩ := ha
      rw [termsV_row hn]
      refine Ev.if_neg (by omega) ?_
      refine Ev.bind (terms_ev hs b) ?_
      by_cases hb : IsRow l b
      · obtain ⟨m, hm⟩ := hb
        rw [termsV_row hm]
        refine Ev.if_neg (by omega) ?_
        refine Ev.bind (Ev.of_some (r := becomeV l a b) (by unfold quaereref1_Become.f; rw [if_pos ⟨⟨n, hn⟩, ⟨m, hm⟩⟩])) ?_
        refine Ev.some_ ?_
        rw [matchV_ok ⟨n, hn⟩ ⟨m, hm⟩]
        unfold becomeV
        cases growV l b a 0 (List.replicate 24 []) <;> rfl
      · rw [termsV_no hb]
        refine Ev.if_pos (by omega) (Ev.some_ ?_)
        rw [matchV_bad (fun h => hb h.2)]
    · rw [termsV_no ha]
      refine Ev.if_pos (by omega) (Ev.some_ ?_)
      rw [matchV_bad (fun h => ha h.1)]
  · refine Ev.if_neg (fun h => hs (signB_true.1 h)) (Ev.some_ ?_)
    rw [matchV_bad (fun h => by obtain ⟨n, h, _⟩ := h.1; exact hs h)]
set_option maxHeartbeats 1000000 in
set_option maxRecDepth 100000 in
theorem matches_calls (A0 : Option Addr) (c0 : Nat) (l : List S73) (A1 : Option Addr) (c1 : Nat) (a : List Int) (A2 : Option Addr) (c2 : Nat) (b : List Int) (w : World)
    (hr0 : Kd.C k73 w A0 l.length l) (hc0 : l.length ≤ c0) (hr1 : Kd.C (Kd.int .i64) w A1 a.length a) (hc1 : a.length ≤ c1) (hr2 : Kd.C (Kd.int .i64) w A2 b.length b) (hc2 : b.length ≤ c2) (hG : Glob w) (hla : a.length < 17592186044400) (hlb : b.length < 17592186044400) :
    Calls Tryd.prog 3 #[.slice A0 l.length c0, .slice A1 a.length c1, .slice A2 b.length c2] w fun e w' => e = .returned (.bool true) ∧ Below w.heap.size w w' := by
  obtain ⟨⟨m, r2, r3⟩, hM⟩ : ∃ R, matchV l a b = R := ⟨_, rfl⟩
  have hsh := matchV_short l a b
  rw [hM] at hsh
  obtain ⟨kr, hkr⟩ := (refMatch_ev l a b).rounds
  rw [hM] at hkr
  obtain ⟨ks, hks⟩ := (sameBinds_ev m (Nat.le_trans hsh.1 (by decide)) hsh.2).rounds
  obtain ⟨kw, hkw⟩ := awake5_ev.rounds
  have HM := Aside0.mk hM
  have HKR := Aside0.mk hkr
  have HKS := Aside0.mk hks
  have HKW := Aside0.mk hkw
  have HR0 := Aside0.mk hr0
  have HR1 := Aside0.mk hr1
  have HR2 := Aside0.mk hr2
  clear hr0 hr1 hr2 hkr hks hkw hM hsh
  go_enter Tryd.func3, Tryd.ntmps3
  go_wp2_with fail
  refine (lend_calls A1 c1 a _ HR1.out hc1 hla).mono ?_
  rintro e w1 ⟨AX, cx, rfl, hx, hb1⟩
  have HX1 := Aside0.mk hx
  have HB1 := Aside0.mk hb1
  clear hx hb1
  go_wp2_with fail
  refine (lend_calls A2 c2 b _ (Kd.C_below HR2.out HB1.out) hc2 hlb).mono ?_
  rintro e w2 ⟨AY, cy, rfl, hy, hb2⟩
  have HX := Aside0.mk (HX1.out.below hb2)
  have HY := Aside0.mk hy
  have HB2 := Aside0.mk (below_step HB1.out hb2)
  clear hy hb2 HX1 HB1
  go_wp2_with fail
  refine (match_Match.calls _ c0 l _ cx a _ cy b m r2 r3 _ (Kd.C_below HR0.out HB2.out) hc0 HX.out.reads (by have := HX.out.cap; omega) HY.out.reads (by have := HY.out.cap; omega) (by unfold match_Match.f; rw [HM.out]) (hG.below HB2.out)).mono ?_
  rintro e w3 ⟨v, rfl, hS, hb3⟩
  have HS3 := Aside0.mk hS
  have HB3 := Aside0.mk hb3
  have HBW3 := Aside0.mk (below_step HB2.out hb3)
  clear hS hb3
  go_wp2_with fail
  refine (quaereref1_Match.calls kr _ c0 l _ c1 a _ c2 b m r2 r3 _ (Kd.C_below HR0.out HBW3.out) hc0 (Kd.C_below HR1.out HBW3.out) hc1 (Kd.C_below HR2.out HBW3.out) hc2 HKR.out).mono ?_
  rintro e w4 ⟨v', rfl, hS', hb4⟩
  have HS4 := Aside0.mk (Kd.S_below HS3.out hb4)
  have HS4' := Aside0.mk hS'
  have HB4 := Aside0.mk (below_step HB3.out hb4)
  have HBW4 := Aside0.mk (below_step HBW3.out hb4)
  clear hS' hb4 HS3 HB3 HBW3
  obtain ⟨AV, cv, rfl⟩ := Kd.S_slice HS4.out
  obtain ⟨AV', cv', rfl⟩ := Kd.S_slice HS4'.out
  go_wp2_with fail
  refine (quaerelaw0_SameBinds.calls ks _ cv m _ cv' m true _ (Kd.S_reads' HS4.out).2.2 (Kd.S_reads' HS4.out).2.1 (Kd.S_reads' HS4'.out).2.2 (Kd.S_reads' HS4'.out).2.1 HKS.out).mono ?_
  rintro e w5 ⟨rfl, hd5⟩
  have HS5 := Aside0.mk (Kd.S_below HS4.out hd5.below)
  have HB5 := Aside0.mk (below_step HB4.out hd5.below)
  have HBW5 := Aside0.mk (below_step HBW4.out hd5.below)
  clear hd5 HS4 HS4' HB4 HBW4
  go_wp2_with fail
  refine (quaerelaw0_Num.calls r3 r3 _ rfl).mono ?_
  rintro e w6 ⟨rfl, hd6⟩
  have HS6 := Aside0.mk (Kd.S_below HS5.out hd6.below)
  have HB6 := Aside0.mk (below_step HB5.out hd6.below)
  have HBW6 := Aside0.mk (below_step HBW5.out hd6.below)
  clear hd6 HS5 HB5 HBW5
  go_wp2_with fail
  refine (spoil_calls _ m w2 _ HB6.out HS6.out).mono ?_
  rintro e w7 ⟨rfl, hb7⟩
  have HX7 := Aside0.mk (HX.out.below hb7)
  have HY7 := Aside0.mk (HY.out.below hb7)
  have HBW7 := Aside0.mk (below_step HB2.out hb7)
  clear hb7 HX HY HB2 HS6 HB6 HBW6
  go_wp2_with fail
  refine (kept_calls AX cx _ a _ c1 _ HX7.out (Kd.C_below HR1.out HBW7.out) hc1).mono ?_
  rintro e w8 ⟨rfl, hd8⟩
  have HY8 := Aside0.mk (HY7.out.below hd8.below)
  have HBW8 := Aside0.mk (below_step HBW7.out hd8.below)
  clear hd8 HX7 HY7 HBW7
  go_wp2_with fail
  refine (kept_calls AY cy _ b _ c2 _ HY8.out (Kd.C_below HR2.out HBW8.out) hc2).mono ?_
  rintro e w9 ⟨rfl, hd9⟩
  have HBW9 := Aside0.mk (below_step HBW8.out hd9.below)
  clear hd9 HY8 HBW8
  go_wp2_with fail
  refine (quaerelaw5_awake.calls kw true _ HKW.out (hG.below HBW9.out)).mono ?_
  rintro e w10 ⟨rfl, hb10⟩
  have HBW10 := Aside0.mk (below_step HBW9.out hb10)
  clear hb10
  go_wp2
  go_ret
  exact ⟨rfl, HBW10.out⟩
end Go.Proofs.YtohclkafdphleaaDoor.PM
