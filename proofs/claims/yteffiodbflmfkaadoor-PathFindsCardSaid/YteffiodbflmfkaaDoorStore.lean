/- The document's Match: its store's become, and Become: their walks. -/
import Derived.Test.YteffiodbflmfkaaDoorRefTerms
import Derived.Test.YteffiodbflmfkaaDoorMatchs
import Derived.Test.YteffiodbflmfkaaDoorPPx0
import Derived.Test.YteffiodbflmfkaaDoorPPx11
import Derived.Test.YteffiodbflmfkaaDoorPPx14
namespace Go.Proofs.YteffiodbflmfkaaDoor.PP
open Go Go.RowKit Go.Proofs.YteffiodbflmfkaaDoorW.PrintWords Go.Proofs.YteffiodbflmfkaaDoorW.PrintLast Go.Proofs.YteffiodbflmfkaaDoorW.PrintMore Go.Proofs.YteffiodbflmfkaaDoor
set_option linter.unusedVariables false
set_option linter.unusedSimpArgs false
/-- The store's block: what stands for the first row's variables. -/
def StoreAt (w0 W : World) (g : Nat) (σ : List (List Int)) : Prop :=
 σ.length = 24 ∧ ∃ cells : Array Value, W.heap[g]? = some (.cells cells 79 (0, 0)) ∧ cells.size = 48 ∧ ∀ v, v < 24 → ∃ x, cells[v]? = some x ∧ BindCell w0 (σ.getD v []) x
theorem store_set {w0 W : World} {g v : Nat} {τ : List (List Int)} {cells : Array Value} {x : Value} {t : List Int} (hl : τ.length = 24) (hv : v < 24) (hh : W.heap[g]? = some (.cells (cells.setIfInBounds v x) 79 (0, 0))) (hz : cells.size = 48)
  (hc : ∀ v, v < 24 → ∃ x, cells[v]? = some x ∧ BindCell w0 (τ.getD v []) x) (hx : BindCell w0 t x) : StoreAt w0 W g (τ.set v t) := by
 refine ⟨by rw [List.length_set]; exact hl, _, hh, by simpa using hz, fun j hj => ?_⟩
 by_cases e : j = v
 ·subst e
  refine ⟨x, by rw [Array.getElem?_setIfInBounds, if_pos rfl, if_pos (by omega)], ?_⟩
  have : (τ.set j t).getD j [] = t := by simp [List.getD_eq_getElem?_getD, hl, hj]
  rw [this]
  exact hx
 ·obtain ⟨y, h1, h2⟩ := hc j hj
  refine ⟨y, by rw [Array.getElem?_setIfInBounds, if_neg (fun h => e h.symm)]; exact h1, ?_⟩
  have : (τ.set v t).getD j [] = τ.getD j [] := by rw [List.getD_eq_getElem?_getD, List.getD_eq_getElem?_getD, List.getElem?_set, if_neg (fun h => e (Eq.symm h))]
  rw [this]
  exact h2
theorem set_same {τ : List (List Int)} {v : Nat} {t : List Int} (h : τ.getD v [] = t) (hv : v < τ.length) : τ.set v t = τ := by
 apply List.ext_getElem?
 intro j
 rw [List.getElem?_set]
 split
 ·rename_i e
  subst e
  rw [List.getElem?_eq_getElem hv, ← h, List.getD_eq_getElem?_getD, List.getElem?_eq_getElem hv]
  simp [hv]
 ·rfl

set_option maxHeartbeats 1000000 in
set_option maxRecDepth 100000 in
theorem become_calls (g : Nat) (A0 : Option Addr) (c0 : Nat) (l : List S59) (A1 : Option Addr) (c1 : Nat) (a : List Int) (A2 : Option Addr) (c2 : Nat) (b : List Int) (σ : List (List Int)) (w0 w : World)
  (hs : SignOk l) (hb : b.length ≤ 48) (ha : a.length ≤ 60) (hcs : ∀ c ∈ a, -24 ≤ c) (hbn : ∃ n, isN (arS l) n b)
  (hB : Below w0.heap.size w0 w) (hg : w0.heap.size ≤ g) (hσ : StoreAt w0 w g σ)
  (hr0 : Kd.C k59 w0 A0 l.length l) (hc0 : l.length ≤ c0) (hr1 : Kd.C (Kd.int .i64) w0 A1 a.length a) (hc1 : a.length ≤ c1) (hr2 : Kd.C (Kd.int .i64) w0 A2 b.length b) (hc2 : b.length ≤ c2) :
  Calls Tryd.prog 61 #[.pointer (some ⟨g, 0, none⟩), .slice A0 l.length c0, .slice A1 a.length c1, .slice A2 b.length c2] w fun e w' =>
   e = .returned (.bool (growV l b a 0 σ).isSome) ∧ (∀ σ', growV l b a 0 σ = some σ' → StoreAt w0 w' g σ') ∧ Below w0.heap.size w0 w' := by
 have hus := Tryd.underlying79
 have HS := Aside0.mk hs
 have HR0 := Aside0.mk hr0
 have HR1 := Aside0.mk hr1
 have HR2 := Aside0.mk hr2
 have HC0 := Aside0.mk hc0
 have HC1 := Aside0.mk hc1
 have HC2 := Aside0.mk hc2
 have HB := Aside0.mk hB
 have HG := Aside0.mk hg
 have HSIG := Aside0.mk hσ
 have HCS := Aside0.mk hcs
 have HLA := Aside0.mk ha
 have HLB := Aside0.mk hb
 obtain ⟨R, hR⟩ : ∃ R, growV l b a 0 σ = R := ⟨_, rfl⟩
 rw [hR]
 have HR := Aside0.mk hR
 have HN := Aside0.mk (show ∃ n, isN (arS l) n (b.drop 0) from hbn)
 clear hs hr0 hr1 hr2 hc0 hc1 hc2 hB hg hσ hcs ha hb hR hbn
 go_enter Tryd.func61, Tryd.ntmps61
 go_wp2
 go_loopg [9, 10] (a.length + 1) (fun kq v9 v10 w' => ∃ (i p : Nat) (τ : List (List Int)), v9 = .int .i64 p ∧ v10 = .int .i64 i ∧ Aside0 (i ≤ a.length ∧ kq + i = a.length + 1) ∧ Aside0 (growV l b (a.drop i) p τ = R) ∧ Aside0 (p ≤ b.length ∧ ∃ n, isN (arS l) n (b.drop p)) ∧ Aside0 (StoreAt w0 w' g τ) ∧ Aside0 (Below w0.heap.size w0 w'))
 case atStart => exact ⟨0, 0, σ, rfl, rfl, ⟨by omega, by omega⟩, HR, ⟨Nat.zero_le _, HN.out⟩, HSIG, HB⟩
 case round =>
  clear HR HSIG HB HN
  obtain ⟨i, p, τ, rfl, rfl, HI, HR, HN, HSIG, HB⟩ := hrel
  by_cases hi : i < a.length
  ·have hla := HLA.out
   have hlb := HLB.out
   have hi0 : (0 : Int) ≤ (i : Int) := by omega
   have hi1 : (i : Int) < (a.length : Int) := by omega
   obtain ⟨ad, rfl, hcell⟩ := Kd.at_int (Kd.C_below HR1.out HB.out) (i : Int) hi0 hi1
   obtain ⟨cc, hcc⟩ : ∃ cc, cc = rd a (i : Int) := ⟨_, rfl⟩
   rw [← hcc, Int.toNat_natCast] at hcell
   have hR1 : growV l b (cc :: a.drop (i + 1)) p τ = R := by rw [hcc, ← drop_cons a i hi]; exact HR.out
   have hclo : -24 ≤ cc := HCS.out cc (by rw [hcc, rd_nat a i hi]; exact List.getElem_mem _)
   clear hcc HR
   have hw2 : wrap64 ((i : Int) + 1) = ((i + 1 : Nat) : Int) := wrap_nat i (by omega)
   have HW2 := Aside0.mk hw2
   clear hw2
   by_cases hp : b.length ≤ p
   ·have : R = none := by rw [← hR1]; simp only [growV]; rw [if_pos hp]
    subst this
    clear hR1
    have hpb : decide ((b.length : Int) ≤ (p : Int)) = true := by simp; omega
    have hpb2 : decide (b.length ≤ p) = true := by simp; omega
    go_wp2
    go_ret
    exact ⟨rfl, fun _ h => by simp at h, by repeat (first | (with_reducible first | exact HB.out | apply below_alloc | apply pw_below_drewN | apply below_drew1) | exact HB.out)⟩
   ·have hpb : decide ((b.length : Int) ≤ (p : Int)) = false := by simp; omega
    have hpb2 : decide (b.length ≤ p) = false := by simp; omega
    have hp0 : (0 : Int) ≤ (p : Int) := by omega
    have hp1 : (p : Int) < (b.length : Int) := by omega
    obtain ⟨bd, rfl, hbcell⟩ := Kd.at_int (Kd.C_below HR2.out HB.out) (p : Int) hp0 hp1
    rw [Int.toNat_natCast] at hbcell
    obtain ⟨n, hn⟩ := HN.out.2
    have hnp : 1 ≤ n := by
     rcases Nat.eq_zero_or_pos n with h0 | h0
     ·rw [h0] at hn
      have := isN_zero hn
      have := congrArg List.length this
      rw [List.length_drop] at this
      simp at this
      omega
     ·exact h0
    obtain ⟨n', rfl⟩ : ∃ n', n = n' + 1 := ⟨n - 1, by omega⟩
    by_cases hc : 0 ≤ cc
    ·have hcb : decide ((0 : Int) ≤ cc) = true := by simpa using hc
     by_cases he : rd b (p : Int) = cc
     ·have hR2 : growV l b (a.drop (i + 1)) (p + 1) τ = R := by rw [← hR1]; simp only [growV]; rw [if_neg hp, if_pos hc, if_pos he]
      have HR := Aside0.mk hR2
      have hn2 : ∃ n, isN (arS l) n (b.drop (p + 1)) := by
       rw [drop_cons b p (by omega)] at hn
       obtain ⟨m, _, h⟩ := isN_cons.1 hn
       exact ⟨_, h⟩
      have HN2 := Aside0.mk (show p + 1 ≤ b.length ∧ _ from ⟨by omega, hn2⟩)
      clear hR1 hR2 hn hn2 hnp
      have hne1 : (cc != rd b (p : Int)) = false := by simp [he]
      rw [he] at hbcell hne1
      clear he
      have hw1 : wrap64 ((p : Int) + 1) = ((p + 1 : Nat) : Int) := wrap_nat p (by omega)
      have HW1 := Aside0.mk hw1
      clear hw1
      go_wp2
      go_quiet (fail)
      go_wp2
      go_roundg (gk - 1)
      case measure => have := HI.out; omega
      case rel => exact ⟨i + 1, p + 1, τ, by first | exact congrArg (Value.int .i64) HW1.out | rfl | go_num | (simp; done), by first | exact congrArg (Value.int .i64) HW2.out | rfl | go_num | (simp; done), ⟨by have := HI.out; omega, by have := HI.out; omega⟩, HR, HN2, ⟨HSIG.out⟩, ⟨by repeat (first | (with_reducible first | exact HB.out | apply below_alloc | apply pw_below_drewN | apply below_drew1) | exact HB.out)⟩⟩
     ·have : R = none := by rw [← hR1]; simp only [growV]; rw [if_neg hp, if_pos hc, if_neg he]
      subst this
      clear hR1 hn hnp
      have hne1 : (cc != rd b (p : Int)) = true := by simpa using fun h => he (Eq.symm h)
      have hne2 : (cc == rd b (p : Int)) = false := by simpa using fun h => he (Eq.symm h)
      clear he
      go_wp2
      go_quiet (fail)
      go_wp2
      go_ret
      exact ⟨rfl, fun _ h => by simp at h, by repeat (first | (with_reducible first | exact HB.out | apply below_alloc | apply pw_below_drewN | apply below_drew1) | exact HB.out)⟩
    ·have hcb : decide ((0 : Int) ≤ cc) = false := by simpa using hc
     obtain ⟨k, hk⟩ := (end_ev HS.out b hlb p (by omega)).rounds
     have hn1 : isN (arS l) (1 + n') (b.drop p) := by rw [Nat.add_comm]; exact hn
     obtain ⟨t, s, ht, htn, hsn⟩ := isN_split hn1
     have e : skipN (arS l) (b.drop p) 1 = some s := by rw [ht]; exact isN_skip htn
     have htl := isN_pos htn
     have hv := endV_some (l := l) (by omega) htn ht
     obtain ⟨q, hq⟩ : ∃ q, q = p + t.length := ⟨_, rfl⟩
     have hqs : b.length - s.length = q ∧ q ≤ b.length ∧ p < q := by
      have : (b.drop p).length = t.length + s.length := by rw [ht]; simp
      rw [List.length_drop] at this
      omega
     have hdq : b.drop q = s := by rw [hq, ← List.drop_drop, ht]; simp
     have HN2 := Aside0.mk (show q ≤ b.length ∧ ∃ n, isN (arS l) n (b.drop q) from ⟨hqs.2.1, n', by rw [hdq]; exact hsn⟩)
     rw [← hq] at hv
     rw [hv] at hk
     have hR2 : (if τ.getD (-1 - cc).toNat [] = [] then growV l b (a.drop (i + 1)) q (τ.set (-1 - cc).toNat ((b.take q).drop p)) else if τ.getD (-1 - cc).toNat [] = (b.take q).drop p then growV l b (a.drop (i + 1)) q τ else none) = R := by
      rw [← hR1]
      conv => rhs; simp only [growV]
      rw [if_neg hp, if_neg hc, e]
      simp only [hqs.1]
     have htq : (b.take q).drop p = t := by
      rw [List.drop_take, ht, show q - p = t.length by omega]
      simp
     have HTQ := Aside0.mk htq
     have HTN := Aside0.mk htl
     have HR := Aside0.mk hR2
     have hq0 : (p : Int) ≤ (q : Int) := by omega
     have hq1 : (q : Int) ≤ (b.length : Int) := by omega
     have HK2 := Aside0.mk hk
     have hvar : ∃ v : Nat, v = (-1 - cc).toNat ∧ v < 24 ∧ -1 - cc = (v : Int) := ⟨(-1 - cc).toNat, rfl, by omega, by omega⟩
     clear hk hv e hR1 hR2 htq htl htn ht hqs hq hn hn1 hnp hsn hdq
     obtain ⟨v, hve, hv24, hvw⟩ := hvar
     rw [← hve] at HR
     have HVE := Aside0.mk hve
     have hv0 : (0 : Int) ≤ (v : Int) := by omega
     have hv1 : (v : Int) < 48 := by omega
     clear hve
     obtain ⟨hlen, cells, hheap, hsz24, hcells⟩ := HSIG.out
     obtain ⟨x, hx, hbc⟩ := hcells v hv24
     have hxc : wr.cell? ⟨g, v, none⟩ = some x := (blk_cell hheap v).trans hx
     have hxf : wr.frozen? ⟨g, v, none⟩ = false := blk_frozen hheap v
     obtain ⟨tv, htv⟩ : ∃ tv, tv = τ.getD v [] := ⟨_, rfl⟩
     rw [← htv] at hbc HR
     have HTV := Aside0.mk htv
     obtain ⟨XA, xc, rfl, hxl, hxC, hxn, hxs⟩ := hbc
     have HXC := Aside0.mk hxC
     have HXL := Aside0.mk hxl
     have HHEAP := Aside0.mk hheap
     have HCELLS := Aside0.mk hcells
     have HSZ24 := Aside0.mk hsz24
     have HLEN := Aside0.mk hlen
     have HV24 := Aside0.mk hv24
     clear htv hxl hxC hheap hcells hsz24 hlen hx hxn hxs
     obtain ⟨i0, hi0', _, hsz, _⟩ := info_parts info3
     have hcut := cut_mid (P := Tryd.prog) 23 3 .i64 .i64 Tryd.underlying23 hi0' 1 hsz (some bd) b.length c2 (p : Int) (q : Int) hp0 hq0 hq1 HC2.out
     have hrow := Kd.C_mid (lo := p) (hi := q) (c := c2) HR2.out (by omega) (by omega) HC2.out
     obtain ⟨TA, hTA⟩ : ∃ TA, TA = (if c2 = p then some bd else (some bd : Option Addr).map (·.add (p * 1))) := ⟨_, rfl⟩
     obtain ⟨tc, htc⟩ : ∃ tc, tc = c2 - p := ⟨_, rfl⟩
     have htq := HTQ.out
     have htl := HTN.out
     have hql : t.length = q - p := by rw [← htq, List.length_drop, List.length_take]; omega
     rw [htq] at hrow HR
     simp only [Int.toNat_natCast] at hcut
     rw [← hTA, ← htc, ← hql] at hcut
     have hrow' : Kd.C (Kd.int .i64) w0 TA t.length t := by rw [hTA]; exact hrow
     have htlc : t.length ≤ tc := by have := HC2.out; rw [htc, hql]; omega
     have htA : t ≠ [] → TA ≠ none := by intro _; rw [hTA]; split <;> simp
     have HROW := Aside0.mk hrow'
     have HTC := Aside0.mk htlc
     have HTA := Aside0.mk htA
     have htne : t ≠ [] := by intro h; rw [h] at htl; simp at htl
     clear hrow hrow' htlc hTA htc htq htA hi0' hsz
     obtain ⟨ke, hke⟩ := (refSame_ev tv t (by have := HXL.out; have := (HXC.out).2.1; omega)).rounds
     have HKE := Aside0.mk hke
     have HTNE := Aside0.mk htne
     have HQP := Aside0.mk (show p < q ∧ q ≤ b.length by omega)
     clear hke hql htl
     by_cases htv0 : tv = []
     ·subst htv0
      have hR3 := HR.out
      rw [if_pos rfl] at hR3
      have HR := Aside0.mk hR3
      have h0 : decide ((0 : Int) < 0) = false := rfl
      clear hR3 HKE htne
      go_wp2_with fail
      refine (quaereref1_End.calls k _ _ l _ _ b (p : Int) (q : Int) _ (Kd.C_below HR0.out HB.out) HC0.out (Kd.C_below HR2.out HB.out) HC2.out HK2.out).mono ?_
      rintro e w' ⟨rfl, ⟨nd, rfl⟩⟩
      go_wp2
      go_quiet (fail)
      go_wp2
      go_region
      go_wp2
      go_roundg (gk - 1)
      case measure => have := HI.out; omega
      case rel => exact ⟨i + 1, q, τ.set v t, by first | rfl | go_num | (simp; done), by first | exact congrArg (Value.int .i64) HW2.out | rfl | go_num | (simp; done), ⟨by have := HI.out; omega, by have := HI.out; omega⟩, HR, HN2, ⟨store_set HLEN.out HV24.out (blk_set HHEAP.out _ _) HSZ24.out HCELLS.out ⟨TA, tc, rfl, HTC.out, HROW.out, fun h => absurd h HTNE.out, HTA.out⟩⟩, ⟨by repeat (first | (with_reducible first | exact HB.out | apply below_alloc | apply pw_below_drewN | apply below_drew1 | refine below_set ?_ HG.out) | exact HB.out)⟩⟩
     ·have hR3 := HR.out
      rw [if_neg htv0] at hR3
      have htp : 0 < tv.length := by
       rcases Nat.eq_zero_or_pos tv.length with h | h
       ·exact absurd (List.length_eq_zero_iff.1 h) htv0
       ·exact h
      have hd0 : decide ((0 : Int) < (tv.length : Int)) = true := by simp; omega
      have hd1 : decide (0 < tv.length) = true := by simpa using htp
      clear htne htv0
      by_cases htt : tv = t
      ·rw [if_pos htt] at hR3
       have hset : τ.set v t = τ := set_same (by rw [← HTV.out]; exact htt) (by have := HLEN.out; omega)
       have HR := Aside0.mk hR3
       have HSET := Aside0.mk hset
       have hke := HKE.out
       have h1 : (decide (tv = t)) = true := by simpa using htt
       rw [h1] at hke
       have HKE := Aside0.mk hke
       clear hR3 hke h1 htt hset
       go_wp2_with fail
       refine (quaereref1_End.calls k _ _ l _ _ b (p : Int) (q : Int) _ (Kd.C_below HR0.out HB.out) HC0.out (Kd.C_below HR2.out HB.out) HC2.out HK2.out).mono ?_
       rintro e w' ⟨rfl, ⟨nd, rfl⟩⟩
       go_wp2
       go_quiet ((go_at_call 62; (with_reducible refine (quaereref1_Same.calls ke _ _ tv _ _ t true _ ?s1 HXL.out ?s2 HTC.out HKE.out).mono ?_); (case s1 => exact Kd.C_below HXC.out (by repeat (first | (with_reducible first | exact HB.out | apply below_alloc | apply pw_below_drewN | apply below_drew1) | exact HB.out))); (case s2 => exact Kd.C_below HROW.out (by repeat (first | (with_reducible first | exact HB.out | apply below_alloc | apply pw_below_drewN | apply below_drew1) | exact HB.out))); rintro e w' ⟨rfl, ⟨nd, rfl⟩⟩; first | exact ⟨rfl, _, World.drewN_drewN _ _ _⟩ | exact ⟨rfl, _, rfl⟩ | exact ⟨rfl, _, Eq.trans (World.drewN_drewN _ _ _) (congrArg (World.drewN _) (Nat.add_assoc _ _ _))⟩))
       go_wp2
       go_region
       go_wp2
       go_roundg (gk - 1)
       case measure => have := HI.out; omega
       case rel => exact ⟨i + 1, q, τ.set v t, by first | rfl | go_num | (simp; done), by first | exact congrArg (Value.int .i64) HW2.out | rfl | go_num | (simp; done), ⟨by have := HI.out; omega, by have := HI.out; omega⟩, ⟨by rw [HSET.out]; exact HR.out⟩, HN2, ⟨store_set HLEN.out HV24.out (blk_set HHEAP.out _ _) HSZ24.out HCELLS.out ⟨TA, tc, rfl, HTC.out, HROW.out, fun h => absurd h HTNE.out, HTA.out⟩⟩, ⟨by repeat (first | (with_reducible first | exact HB.out | apply below_alloc | apply pw_below_drewN | apply below_drew1 | refine below_set ?_ HG.out) | exact HB.out)⟩⟩
      ·rw [if_neg htt] at hR3
       subst hR3
       have hke := HKE.out
       have h1 : (decide (tv = t)) = false := by simpa using htt
       rw [h1] at hke
       have HKE := Aside0.mk hke
       clear hke h1 htt
       go_wp2_with fail
       refine (quaereref1_End.calls k _ _ l _ _ b (p : Int) (q : Int) _ (Kd.C_below HR0.out HB.out) HC0.out (Kd.C_below HR2.out HB.out) HC2.out HK2.out).mono ?_
       rintro e w' ⟨rfl, ⟨nd, rfl⟩⟩
       go_wp2
       go_quiet ((go_at_call 62; (with_reducible refine (quaereref1_Same.calls ke _ _ tv _ _ t false _ ?s1 HXL.out ?s2 HTC.out HKE.out).mono ?_); (case s1 => exact Kd.C_below HXC.out (by repeat (first | (with_reducible first | exact HB.out | apply below_alloc | apply pw_below_drewN | apply below_drew1) | exact HB.out))); (case s2 => exact Kd.C_below HROW.out (by repeat (first | (with_reducible first | exact HB.out | apply below_alloc | apply pw_below_drewN | apply below_drew1) | exact HB.out))); rintro e w' ⟨rfl, ⟨nd, rfl⟩⟩; first | exact ⟨rfl, _, World.drewN_drewN _ _ _⟩ | exact ⟨rfl, _, rfl⟩ | exact ⟨rfl, _, Eq.trans (World.drewN_drewN _ _ _) (congrArg (World.drewN _) (Nat.add_assoc _ _ _))⟩))
       go_wp2
       go_ret
       exact ⟨rfl, fun _ h => by simp at h, by repeat (first | (with_reducible first | exact HB.out | apply below_alloc | apply pw_below_drewN | apply below_drew1) | exact HB.out)⟩
  ·have hia : i = a.length := by have := HI.out; omega
   have hR1 := HR.out
   rw [List.drop_eq_nil_of_le (by omega)] at hR1
   simp only [growV] at hR1
   subst hia
   clear hi
   by_cases hp : p = b.length
   ·rw [if_pos hp] at hR1
    subst hR1
    have h1 : ((p : Int) == (b.length : Int)) = true := by simp [hp]
    have h2 : (p == b.length) = true := by simp [hp]
    clear hp
    go_wp2
    go_ret
    exact ⟨rfl, fun σ' h => by obtain rfl := Option.some.inj h; exact HSIG.out, HB.out⟩
   ·rw [if_neg hp] at hR1
    subst hR1
    have h1 : ((p : Int) == (b.length : Int)) = false := by simp; omega
    have h2 : (p == b.length) = false := by simpa using hp
    clear hp
    go_wp2
    go_ret
    exact ⟨rfl, fun σ' h => absurd h (by simp), HB.out⟩
end Go.Proofs.YteffiodbflmfkaaDoor.PP
/- The document's Become: its walk. -/
namespace Go.Proofs.YteffiodbflmfkaaDoor.PP
open Go Go.RowKit Go.Proofs.YteffiodbflmfkaaDoorW.PrintWords Go.Proofs.YteffiodbflmfkaaDoorW.PrintLast Go.Proofs.YteffiodbflmfkaaDoorW.PrintMore Go.Proofs.YteffiodbflmfkaaDoor
set_option linter.unusedVariables false
set_option linter.unusedSimpArgs false
def storeNil : Array Value := #[.slice none 0 0, .slice none 0 0, .slice none 0 0, .slice none 0 0, .slice none 0 0, .slice none 0 0, .slice none 0 0, .slice none 0 0, .slice none 0 0, .slice none 0 0, .slice none 0 0, .slice none 0 0, .slice none 0 0, .slice none 0 0, .slice none 0 0, .slice none 0 0, .slice none 0 0, .slice none 0 0, .slice none 0 0, .slice none 0 0, .slice none 0 0, .slice none 0 0, .slice none 0 0, .slice none 0 0, .slice none 0 0, .slice none 0 0, .slice none 0 0, .slice none 0 0, .slice none 0 0, .slice none 0 0, .slice none 0 0, .slice none 0 0, .slice none 0 0, .slice none 0 0, .slice none 0 0, .slice none 0 0, .slice none 0 0, .slice none 0 0, .slice none 0 0, .slice none 0 0, .slice none 0 0, .slice none 0 0, .slice none 0 0, .slice none 0 0, .slice none 0 0, .slice none 0 0, .slice none 0 0, .slice none 0 0]
theorem storeNil_eq : storeNil = Array.replicate 48 (.slice none 0 0) := by kernel_rfl
theorem store_new (w : World) : StoreAt w (w.alloc (.cells #[.slice none 0 0, .slice none 0 0, .slice none 0 0, .slice none 0 0, .slice none 0 0, .slice none 0 0, .slice none 0 0, .slice none 0 0, .slice none 0 0, .slice none 0 0, .slice none 0 0, .slice none 0 0, .slice none 0 0, .slice none 0 0, .slice none 0 0, .slice none 0 0, .slice none 0 0, .slice none 0 0, .slice none 0 0, .slice none 0 0, .slice none 0 0, .slice none 0 0, .slice none 0 0, .slice none 0 0, .slice none 0 0, .slice none 0 0, .slice none 0 0, .slice none 0 0, .slice none 0 0, .slice none 0 0, .slice none 0 0, .slice none 0 0, .slice none 0 0, .slice none 0 0, .slice none 0 0, .slice none 0 0, .slice none 0 0, .slice none 0 0, .slice none 0 0, .slice none 0 0, .slice none 0 0, .slice none 0 0, .slice none 0 0, .slice none 0 0, .slice none 0 0, .slice none 0 0, .slice none 0 0, .slice none 0 0] 79)) w.heap.size (List.replicate 24 []) := by
 show StoreAt w (w.alloc (.cells storeNil 79)) w.heap.size (List.replicate 24 [])
 rw [storeNil_eq]
 refine ⟨List.length_replicate, _, heap_alloc_new _ _, Array.size_replicate, fun v hv => ⟨.slice none 0 0, by rw [Array.getElem?_replicate, if_pos (by omega)], ?_⟩⟩
 have e : (List.replicate 24 ([] : List Int)).getD v [] = [] := by
  rw [List.getD_eq_getElem?_getD, List.getElem?_replicate, if_pos hv]
  rfl
 rw [e]
 exact ⟨none, 0, rfl, Nat.le_refl _, ⟨rfl, by simp, fun h => absurd h (Nat.lt_irrefl 0)⟩, fun _ => ⟨rfl, rfl⟩, fun h => absurd rfl h⟩
/-- What Become answers, of two rows. -/
noncomputable def becomeV (l : List S59) (a b : List Int) : List S66 × Bool := match growV l b a 0 (List.replicate 24 []) with | some σ => (listTo σ 24, true) | none => ([], false)
theorem bindOf_single (σ : List (List Int)) (v : Nat) : bindOf σ v = if σ.getD v [] = [] then none else if σ.getD v [] = [-1 - (v : Int)] then none else some ⟨(v : Int), σ.getD v []⟩ := by
 unfold bindOf
 generalize σ.getD v [] = t
 cases t with
 | nil => simp
 | cons x r =>
  cases r with
  | nil =>
   have hr : rd [x] 0 = x := rfl
   by_cases h : x = -1 - (v : Int)
   ·subst h; simp [hr]
   ·simp [hr, h]
  | cons y r => simp
theorem lit1_C (w : World) (x : Int) (t : TypeId) : Kd.C (Kd.int .i64) (w.alloc (.cells #[.int .i64 x] t)) (some ⟨w.heap.size, 0, none⟩) 1 [x] := by
 refine ⟨rfl, by decide, fun _ => ⟨_, rfl, fun j p hp => ?_⟩⟩
 cases j with
 | succ j => simp at hp
 | zero =>
  obtain rfl := Option.some.inj hp
  refine ⟨[.int .i64 x], rfl, rfl, fun i u hu => ?_⟩
  cases i with
  | succ i => simp at hu
  | zero =>
   obtain rfl := Option.some.inj hu
   simp [Addr.add]
set_option maxHeartbeats 1000000 in
set_option maxRecDepth 100000 in
theorem refBecome_calls (A0 : Option Addr) (c0 : Nat) (l : List S59) (A1 : Option Addr) (c1 : Nat) (a : List Int) (A2 : Option Addr) (c2 : Nat) (b : List Int) (w : World)
  (hr0 : Kd.C k59 w A0 l.length l) (hc0 : l.length ≤ c0) (hr1 : Kd.C (Kd.int .i64) w A1 a.length a) (hc1 : a.length ≤ c1) (hr2 : Kd.C (Kd.int .i64) w A2 b.length b) (hc2 : b.length ≤ c2) (ha : IsRow l a) (hb : IsRow l b) :
  Calls Tryd.prog 49 #[.slice A0 l.length c0, .slice A1 a.length c1, .slice A2 b.length c2] w fun e w' =>
   ∃ v, e = .returned (.tuple #[v, .bool (becomeV l a b).2]) ∧ Kd.S k66 66 w' w.heap.size (fun _ => True) v (becomeV l a b).1 ∧ Below w.heap.size w w' := by
 have hus := Tryd.underlying79
 have hub := Tryd.underlying66
 obtain ⟨⟨r1, r2⟩, hR⟩ : ∃ R, becomeV l a b = R := ⟨_, rfl⟩
 rw [hR]
 show Calls Tryd.prog 49 #[.slice A0 l.length c0, .slice A1 a.length c1, .slice A2 b.length c2] w fun e w' => ∃ v, e = .returned (.tuple #[v, .bool r2]) ∧ Kd.S k66 66 w' w.heap.size (fun _ => True) v r1 ∧ Below w.heap.size w w'
 have HM := Aside0.mk hR
 have HR0 := Aside0.mk hr0
 have HR1 := Aside0.mk hr1
 have HR2 := Aside0.mk hr2
 have HA := Aside0.mk ha
 have HBB := Aside0.mk hb
 clear hr0 hr1 hr2 ha hb hR
 go_enter Tryd.func49, Tryd.ntmps49
 go_wp2_with fail
 refine (become_calls w.heap.size A0 c0 l A1 c1 a A2 c2 b (List.replicate 24 []) w _ ?h1 ?h2 ?h3 ?h4 ?h6 ?h5 (Nat.le_refl _) (store_new w) HR0.out hc0 HR1.out hc1 HR2.out hc2).mono ?_
 case h1 => obtain ⟨n, h, _⟩ := HA.out; exact h
 case h2 => obtain ⟨n, _, h, _⟩ := HBB.out; exact h
 case h3 => obtain ⟨n, _, h, _⟩ := HA.out; omega
 case h4 => exact row_codes HA.out
 case h5 => exact below_alloc (Below.refl _ _) _
 case h6 => obtain ⟨n, _, _, h⟩ := HBB.out; exact ⟨n, h⟩
 rintro e w3 ⟨rfl, hσ, hb3⟩
 cases hg : growV l b a 0 (List.replicate 24 []) with
 | none =>
  have HB3 := Aside0.mk hb3
  have hm := HM.out
  unfold becomeV at hm
  rw [hg] at hm
  simp only [Prod.mk.injEq] at hm
  obtain ⟨rfl, rfl⟩ := hm
  clear hσ hb3 hg HM
  go_wp2
  go_ret2
  exact ⟨_, rfl, Kd.S_nil _ _ _ _ _, HB3.out⟩
 | some σ =>
  have hL := growV_len (by obtain ⟨n, _, h, _⟩ := HBB.out; exact h) a 0 _ σ (fun t ht => by rw [(List.mem_replicate.1 ht).2]; simp) hg
  have HB0 := Aside0.mk hb3
  have HSIG := Aside0.mk (hσ σ hg)
  have HL := Aside0.mk hL
  have hm := HM.out
  unfold becomeV at hm
  rw [hg] at hm
  simp only [Prod.mk.injEq] at hm
  obtain ⟨rfl, rfl⟩ := hm
  have HG := Aside0.mk (show w.heap.size < w3.heap.size by
   obtain ⟨_, cells, hh, _⟩ := hσ σ hg
   exact blk_lt hh)
  clear HM hσ hb3 hg hL
  go_wp2
  go_loopg [9, 10] 25 (fun kq v9 v10 w' => ∃ (i : Nat), v10 = .int .i64 i ∧ Aside0 (i ≤ 24 ∧ kq + i = 25) ∧ Aside0 (Kd.S k66 66 w' w3.heap.size (fun _ => True) v9 (listTo σ i)) ∧ Aside0 (Below w3.heap.size w3 w'))
  case atStart => exact ⟨0, rfl, ⟨by omega, by omega⟩, ⟨Kd.S_nil _ _ _ _ _⟩, ⟨Below.refl _ _⟩⟩
  case round =>
   obtain ⟨i, rfl, HI, HO, HB⟩ := hrel
   have HBW := Aside0.mk (below_step HB0.out HB.out)
   by_cases hi : i < 24
   ·obtain ⟨hlen, cells, hheap, hsz24, hcells⟩ := HSIG.out
    obtain ⟨x, hx, hbc⟩ := hcells i hi
    have hxc : wr.cell? ⟨w.heap.size, i, none⟩ = some x := by
     rw [pw_cell_below HB.out ((blk_cell hheap i).trans hx)]
    have hi0 : (0 : Int) ≤ (i : Int) := by omega
    have hi1 : (i : Int) < 48 := by omega
    have hi2 : (i : Int) ≤ 23 := by omega
    obtain ⟨t, ht⟩ : ∃ t, t = σ.getD i [] := ⟨_, rfl⟩
    have hLt : t.length ≤ 48 := by
     rw [ht, List.getD_eq_getElem?_getD, List.getElem?_eq_getElem (by omega)]
     exact HL.out _ (List.getElem_mem _)
    have hbo := bindOf_single σ i
    rw [← ht] at hbo
    have hls : listTo σ (i + 1) = listTo σ i ++ (match bindOf σ i with | some b => [b] | none => []) := rfl
    rw [hbo] at hls
    rw [← ht] at hbc
    obtain ⟨XA, xc, rfl, hxl, hxC, hxn, hxs⟩ := hbc
    have HTL := Aside0.mk hLt
    have HLS := Aside0.mk hls
    have HXL := Aside0.mk hxl
    have HXC := Aside0.mk hxC
    clear hlen hheap hsz24 hcells hx ht hLt hbo hls hxl hxC hxn hxs
    by_cases ht0 : t = []
    ·have h1 := HLS.out
     rw [if_pos ht0] at h1
     simp only [List.append_nil] at h1
     have H1 := Aside0.mk h1
     subst ht0
     clear h1 HLS
     go_wp2
     go_roundg (gk - 1)
     case measure => have := HI.out; omega
     case rel => exact ⟨i + 1, by first | rfl | go_num | (simp; done), ⟨by have := HI.out; omega, by have := HI.out; omega⟩, ⟨by rw [H1.out]; (with_reducible repeat (first | apply Kd.S_alloc | apply Kd.S_drewN | apply Kd.S_drew)); exact HO.out⟩, ⟨by repeat (first | (with_reducible first | exact HB.out | apply below_alloc | apply pw_below_drewN | apply below_drew1) | exact HB.out)⟩⟩
    ·have htp : 0 < t.length := by
      rcases Nat.eq_zero_or_pos t.length with h | h
      ·exact absurd (List.length_eq_zero_iff.1 h) ht0
      ·exact h
     have hd0 : decide ((0 : Int) < (t.length : Int)) = true := by simp; omega
     have hd1 : decide (0 < t.length) = true := by simpa using htp
     obtain ⟨ke, hke⟩ := (refSame_ev t [-1 - (i : Int)] (by have := HTL.out; omega)).rounds
     have HKE := Aside0.mk hke
     clear hke
     by_cases he : t = [-1 - (i : Int)]
     ·have h1 := HLS.out
      rw [if_neg ht0, if_pos he] at h1
      simp only [List.append_nil] at h1
      have H1 := Aside0.mk h1
      have hke := HKE.out
      rw [decide_eq_true he] at hke
      have HKE := Aside0.mk hke
      clear hke h1 he ht0 HLS
      go_wp2_with fail
      refine (quaereref1_Same.calls ke _ _ t (some ⟨_, 0, none⟩) 1 [-1 - (i : Int)] true _ ?s1 HXL.out ?s2 (Nat.le_refl _) HKE.out).mono ?_
      case s1 => exact Kd.C_below HXC.out (below_alloc HBW.out _)
      case s2 => exact lit1_C _ _ _
      rintro e w' ⟨rfl, ⟨nd, rfl⟩⟩
      go_wp2
      go_roundg (gk - 1)
      case measure => have := HI.out; omega
      case rel => exact ⟨i + 1, by first | rfl | go_num | (simp; done), ⟨by have := HI.out; omega, by have := HI.out; omega⟩, ⟨by rw [H1.out]; (with_reducible repeat (first | apply Kd.S_alloc | apply Kd.S_drewN | apply Kd.S_drew)); exact HO.out⟩, ⟨by repeat (first | (with_reducible first | exact HB.out | apply below_alloc | apply pw_below_drewN | apply below_drew1) | exact HB.out)⟩⟩
     ·have h1 := HLS.out
      rw [if_neg ht0, if_neg he] at h1
      have H1 := Aside0.mk (show listTo σ (i + 1) = listTo σ i ++ [⟨(i : Int), t⟩] from h1)
      have hke := HKE.out
      rw [decide_eq_false he] at hke
      have HKE := Aside0.mk hke
      clear hke h1 he ht0 HLS
      go_wp2_with fail
      refine (quaereref1_Same.calls ke _ _ t (some ⟨_, 0, none⟩) 1 [-1 - (i : Int)] false _ ?s1 HXL.out ?s2 (Nat.le_refl _) HKE.out).mono ?_
      case s1 => exact Kd.C_below HXC.out (below_alloc HBW.out _)
      case s2 => exact lit1_C _ _ _
      rintro e w5 ⟨rfl, hd⟩
      have hbb := below_step (below_alloc (Below.refl wr.heap.size wr) _) hd.below
      have hxc5 := pw_cell_below hbb hxc
      have HO5 := Aside0.mk (Kd.S_below HO.out hbb)
      have HB5 := Aside0.mk (below_step HB.out hbb)
      have HBW5 := Aside0.mk (below_step HBW.out hbb)
      clear hd hbb hxc
      go_wp2_with (first | ((with_reducible refine gate_dst (N := 46) rfl ?_); refine Kd.R_lit (Kd.int .i64) _ 3 ?hg (N := 46) ?hd (xs := ([] : List Int)) (inner := []) (ok := fun _ => True) (okp := fun _ => True) ?hr ?hp (fun _ hk => hk) trivial (Below.refl _ _) (Nat.le_refl _) (by simp) ?_; (case hd => rfl); (case hg => rfl); (case hr => first | (go_simp; done) | (go_simp; rfl)); (case hp => exact (Reps.none _ _)); intro v46 w6 ho4 hb hg_ hnew_; have hxc6 := pw_cell_below hb hxc5; have n0 := Aside0.mk ho4; have n1 := Aside0.mk hb; clear ho4 hb hg_ hnew_ hxc5) | ((with_reducible refine gate_builtin (b := .append) (xs := #[.tmp 46, .tmp 52]) rfl ?_); at_builtin; refine Kd.R_append_rows (Kd.int .i64) (w0 := w5) w5.heap.size rfl (.tmp 46) (.tmp 52) 23 3 (.int .i64 0) 8 rfl Tryd.underlying23 info3 rfl (by decide) (by omega) v46 [] t _ _ _ (fun _ => True) (fun _ => False) rfl rfl ?aO ?aR (fun _ _ h => h) (fun _ h => h.elim) ?aF ?aB ?aS ?aL ?_; (case aR => exact Kd.C_below HXC.out (below_step HBW5.out n1.out)); (case aB => exact n1.out); (case aF => exact (fun _ _ => trivial)); (case aO => exact n0.out); (case aS => exact below_size n1.out); (case aL => have := HTL.out; simp only [List.length_nil]; omega); intro v53 w7 ho hb hg hat; rw [List.nil_append] at ho; obtain ⟨Ac, cc, rfl⟩ := Kd.R_slice ho; obtain ⟨N, hN, hout, hel⟩ := el_parts ho hb HO5.out (below_size HB5.out); have HBW7 := Aside0.mk (below_step HBW5.out hb); have HB7 := Aside0.mk (below_step HB5.out hb); have HOUT := Aside0.mk hout; have HEL := Aside0.mk hel; have HN := Aside0.mk hN; clear ho hb hg hat hout hel hN) | ((with_reducible refine gate_builtin (b := .append) (xs := #[.tmp 44, .tmp 55]) rfl ?_); at_builtin; refine Kd.S_append k66 (w0 := w3) w3.heap.size rfl (.tmp 44) (.tmp 55) 46 66 (.agg #[.int .i64 0, .slice none 0 0]) 32 rfl Tryd.underlying46 bindInfo rfl (by decide) (by omega) u9 (listTo σ i) (⟨(i : Int), t⟩ : S66) [.int .i64 (i : Int), .slice Ac t.length cc] (fun _ => True) (fun k => N ≤ k) rfl rfl ?hp HN.out (fun _ _ => trivial) ?hO ?hB ?hs ?hl ?_; (case hp => exact k66_mkM _ _ _ _ HEL.out); (case hO => exact HOUT.out); (case hB => exact HB7.out); (case hs => exact below_size HB7.out); (case hl => have := listTo_length σ i; have := HI.out; omega); intro v9 w9 ho hb hg hat; have n0_ := Aside0.mk hb; have n1_ := Aside0.mk ho; clear ho hb hg hat))
      go_roundg (gk - 1)
      case measure => have := HI.out; omega
      case rel => exact ⟨i + 1, by first | rfl | go_num | (simp; done), ⟨by have := HI.out; omega, by have := HI.out; omega⟩, ⟨by rw [H1.out]; exact n1_.out⟩, ⟨n0_.out⟩⟩
   ·obtain rfl : i = 24 := by have := HI.out; omega
    clear hi
    go_wp2
    go_ret2
    exact ⟨_, rfl, Kd.S_lower HO.out (below_size HB0.out), HBW.out⟩
end Go.Proofs.YteffiodbflmfkaaDoor.PP
