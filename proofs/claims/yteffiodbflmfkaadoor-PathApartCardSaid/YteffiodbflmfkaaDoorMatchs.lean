/- Match's inner function Grow: what its walk does to the array of binds. Match's List and Match itself: their walks, and what Match answers plainly. -/
import Derived.Test.YteffiodbflmfkaaDoorTerms
import Derived.WalkSpells
import Derived.Test.YteffiodbflmfkaaDoorIsRow
import Derived.Test.YteffiodbflmfkaaDoorPPx0
import Derived.Test.YteffiodbflmfkaaDoorPPx3
import Derived.Test.YteffiodbflmfkaaDoorPPx7
namespace Go.Proofs.YteffiodbflmfkaaDoor.PP
open Go Go.RowKit Go.Proofs.YteffiodbflmfkaaDoorW.PrintWords Go.Proofs.YteffiodbflmfkaaDoorW.PrintLast Go.Proofs.YteffiodbflmfkaaDoorW.PrintMore Go.Proofs.YteffiodbflmfkaaDoor
set_option linter.unusedVariables false
set_option linter.unusedSimpArgs false

/-- What Grow makes of the binds; none: it answers false. -/
noncomputable def growV (l : List S59) (b : List Int) : List Int → Nat → List (List Int) → Option (List (List Int))
 | [], i, σ => if i = b.length then some σ else none
 | c :: a, i, σ => if b.length ≤ i then none else if 0 ≤ c then (if rd b (i : Int) = c then growV l b a (i + 1) σ else none) else
  match skipN (arS l) (b.drop i) 1 with
  | none => none
  | some s => if σ.getD (-1 - c).toNat [] = [] then growV l b a (b.length - s.length) (σ.set (-1 - c).toNat ((b.take (b.length - s.length)).drop i)) else if σ.getD (-1 - c).toNat [] = (b.take (b.length - s.length)).drop i then growV l b a (b.length - s.length) σ else none

/-- One bind's cell: nil, or a row that was there ahead of all. -/
def BindCell (w0 : World) (t : List Int) (v : Value) : Prop := ∃ A c, v = .slice A t.length c ∧ t.length ≤ c ∧ Kd.C (Kd.int .i64) w0 A t.length t ∧ (t = [] → A = none ∧ c = 0) ∧ (t ≠ [] → A ≠ none)
/-- The array of binds lies in block g. -/
def BindsAt (w0 W : World) (g : Nat) (σ : List (List Int)) : Prop :=
 σ.length = 24 ∧ ∃ cells : Array Value, W.heap[g]? = some (.cells cells 75 (0, 0)) ∧ cells.size = 24 ∧ ∀ v, v < 24 → ∃ x, cells[v]? = some x ∧ BindCell w0 (σ.getD v []) x

theorem binds_set {w0 W : World} {g v : Nat} {τ : List (List Int)} {cells : Array Value} {x : Value} {t : List Int} (hl : τ.length = 24) (hh : W.heap[g]? = some (.cells (cells.setIfInBounds v x) 75 (0, 0))) (hz : cells.size = 24)
  (hc : ∀ v, v < 24 → ∃ x, cells[v]? = some x ∧ BindCell w0 (τ.getD v []) x) (hx : BindCell w0 t x) : BindsAt w0 W g (τ.set v t) := by
 refine ⟨by rw [List.length_set]; exact hl, _, hh, by simpa using hz, fun j hj => ?_⟩
 by_cases e : j = v
 ·subst e
  refine ⟨x, by simp [Array.getElem?_setIfInBounds, hz, hj], ?_⟩
  have : (τ.set j t).getD j [] = t := by simp [List.getD_eq_getElem?_getD, hl, hj]
  rw [this]
  exact hx
 ·obtain ⟨y, h1, h2⟩ := hc j hj
  refine ⟨y, by rw [Array.getElem?_setIfInBounds, if_neg (fun h => e h.symm)]; exact h1, ?_⟩
  have : (τ.set v t).getD j [] = τ.getD j [] := by rw [List.getD_eq_getElem?_getD, List.getD_eq_getElem?_getD, List.getElem?_set, if_neg (fun h => e (Eq.symm h))]
  rw [this]
  exact h2

set_option maxHeartbeats 1000000 in
set_option maxRecDepth 100000 in
theorem grow_calls (g : Nat) (A0 : Option Addr) (c0 : Nat) (l : List S59) (A1 : Option Addr) (c1 : Nat) (a : List Int) (A2 : Option Addr) (c2 : Nat) (b : List Int) (σ : List (List Int)) (w0 w : World)
  (hs : SignOk l) (hb : b.length ≤ 60) (ha : a.length ≤ 60) (hcs : ∀ c ∈ a, -24 ≤ c)
  (hB : Below w0.heap.size w0 w) (hg : w0.heap.size ≤ g) (hσ : BindsAt w0 w g σ)
  (hr0 : Kd.C k59 w0 A0 l.length l) (hc0 : l.length ≤ c0) (hr1 : Kd.C (Kd.int .i64) w0 A1 a.length a) (hc1 : a.length ≤ c1) (hr2 : Kd.C (Kd.int .i64) w0 A2 b.length b) (hc2 : b.length ≤ c2) :
  Calls Tryd.prog 59 #[.pointer (some ⟨g, 0, none⟩), .slice A0 l.length c0, .slice A1 a.length c1, .slice A2 b.length c2] w fun e w' =>
   e = .returned (.bool (growV l b a 0 σ).isSome) ∧ (∀ σ', growV l b a 0 σ = some σ' → BindsAt w0 w' g σ') ∧ Below w0.heap.size w0 w' := by
 have HS := Aside0.mk hs
 have HR0 := Aside0.mk hr0
 have HR1 := Aside0.mk hr1
 have HR2 := Aside0.mk hr2
 have HC0 := Aside0.mk hc0
 have HC1 := Aside0.mk hc1
 have HC2 := Aside0.mk hc2
 have HB := Aside0.mk hB
 have HG := Aside0.mk hg
 have HSIG := Aside0.mk hσ
 have HCS := Aside0.mk hcs
 have HLA := Aside0.mk ha
 have HLB := Aside0.mk hb
 obtain ⟨R, hR⟩ : ∃ R, growV l b a 0 σ = R := ⟨_, rfl⟩
 rw [hR]
 have HR := Aside0.mk hR
 clear hs hr0 hr1 hr2 hc0 hc1 hc2 hB hg hσ hcs ha hb hR
 go_enter Tryd.func59, Tryd.ntmps59
 go_wp2
 go_loopg [9, 18] (a.length + 1) (fun kq v9 v18 w' => ∃ (i p : Nat) (τ : List (List Int)), v9 = .int .i64 p ∧ v18 = .int .i64 i ∧ Aside0 (i ≤ a.length ∧ kq + i = a.length + 1) ∧ Aside0 (growV l b (a.drop i) p τ = R) ∧ Aside0 (BindsAt w0 w' g τ) ∧ Aside0 (Below w0.heap.size w0 w'))
 case atStart => exact ⟨0, 0, σ, rfl, rfl, ⟨by omega, by omega⟩, HR, HSIG, HB⟩
 case round =>
  clear HR HSIG HB
  obtain ⟨i, p, τ, rfl, rfl, HI, HR, HSIG, HB⟩ := hrel
  by_cases hi : i < a.length
  ·have hla := HLA.out
   have hlb := HLB.out
   have hi0 : (0 : Int) ≤ (i : Int) := by omega
   have hi1 : (i : Int) < (a.length : Int) := by omega
   obtain ⟨ad, rfl, hcell⟩ := Kd.at_int (Kd.C_below HR1.out HB.out) (i : Int) hi0 hi1
   obtain ⟨cc, hcc⟩ : ∃ cc, cc = rd a (i : Int) := ⟨_, rfl⟩
   rw [← hcc, Int.toNat_natCast] at hcell
   have hR1 : growV l b (cc :: a.drop (i + 1)) p τ = R := by rw [hcc, ← drop_cons a i hi]; exact HR.out
   have hclo : -24 ≤ cc := HCS.out cc (by rw [hcc, rd_nat a i hi]; exact List.getElem_mem _)
   have hchi : cc ≤ 9223372036854775807 ∨ True := .inr trivial
   have HCC := Aside0.mk hcc
   clear hcc hchi HR
   by_cases hp : b.length ≤ p
   ·-- at the end of b
    have : R = none := by rw [← hR1]; simp only [growV]; rw [if_pos hp]
    subst this
    clear hR1
    have hpb : decide ((b.length : Int) ≤ (p : Int)) = true := by simp; omega
    have hpb2 : decide (b.length ≤ p) = true := by simp; omega
    go_wp2
    go_ret
    exact ⟨rfl, fun _ h => by simp at h, by repeat (first | (with_reducible first | exact HB.out | apply below_alloc | apply pw_below_drewN | apply below_drew1) | exact HB.out)⟩
   ·have hpb : decide ((b.length : Int) ≤ (p : Int)) = false := by simp; omega
    have hpb2 : decide (b.length ≤ p) = false := by simp; omega
    have hp0 : (0 : Int) ≤ (p : Int) := by omega
    have hp1 : (p : Int) < (b.length : Int) := by omega
    obtain ⟨bd, rfl, hbcell⟩ := Kd.at_int (Kd.C_below HR2.out HB.out) (p : Int) hp0 hp1
    rw [Int.toNat_natCast] at hbcell
    by_cases hc : 0 ≤ cc
    ·have hcb : decide ((0 : Int) ≤ cc) = true := by simpa using hc
     by_cases he : rd b (p : Int) = cc
     ·have hR2 : growV l b (a.drop (i + 1)) (p + 1) τ = R := by rw [← hR1]; simp only [growV]; rw [if_neg hp, if_pos hc, if_pos he]
      have HR := Aside0.mk hR2
      clear hR1 hR2
      rw [he] at hbcell
      clear he
      have hw1 : wrap64 ((p : Int) + 1) = ((p + 1 : Nat) : Int) := wrap_nat p (by omega)
      have HW1 := Aside0.mk hw1
      clear hw1
      go_wp2
      go_roundg (gk - 1)
      case measure => have := HI.out; omega
      case rel => exact ⟨i + 1, p + 1, τ, by first | rfl | go_num | (simp; done), by first | rfl | go_num | (simp; done), ⟨by have := HI.out; omega, by have := HI.out; omega⟩, HR, HSIG, HB⟩
     ·have : R = none := by rw [← hR1]; simp only [growV]; rw [if_neg hp, if_pos hc, if_neg he]
      subst this
      clear hR1
      have hne1 : (rd b (p : Int) != cc) = true := by simpa using he
      have hne2 : (rd b (p : Int) == cc) = false := by simpa using he
      clear he
      go_wp2
      go_ret
      exact ⟨rfl, fun _ h => by simp at h, by repeat (first | (with_reducible first | exact HB.out | apply below_alloc | apply pw_below_drewN | apply below_drew1) | exact HB.out)⟩
    ·have hcb : decide ((0 : Int) ≤ cc) = false := by simpa using hc
     obtain ⟨k, hk⟩ := (skip_ev HS.out b hlb p (by omega)).rounds
     have HK := Aside0.mk hk
     clear hk
     cases e : skipN (arS l) (b.drop p) 1 with
     | none =>
      have hv : skipV l b p 1 = (0, false) := by unfold skipV; rw [e]
      have hk := HK.out
      rw [hv] at hk
      have : R = none := by rw [← hR1]; simp only [growV]; rw [if_neg hp, if_neg hc, e]
      subst this
      clear hR1 hv e HK
      have HK := Aside0.mk hk
      clear hk
      go_wp2_with (go_at_call 65; (with_reducible refine (term_Skip.calls k _ _ l _ _ b (p : Int) 0 false _ (Kd.C_below HR0.out HB.out) HC0.out (Kd.C_below HR2.out HB.out) HC2.out HK.out).mono ?_); rintro e w' ⟨rfl, ⟨nd, rfl⟩⟩)
      go_ret
      exact ⟨rfl, fun _ h => by simp at h, by repeat (first | (with_reducible first | exact HB.out | apply below_alloc | apply pw_below_drewN | apply below_drew1) | exact HB.out)⟩
     | some s =>
      obtain ⟨t, ht, htn⟩ := skipN_split _ _ _ e
      have htl := isN_pos htn
      obtain ⟨hv, _⟩ := skipV_some (l := l) (by omega) htn ht
      obtain ⟨q, hq⟩ : ∃ q, q = p + t.length := ⟨_, rfl⟩
      have hqs : b.length - s.length = q ∧ q ≤ b.length ∧ p < q := by
       have : (b.drop p).length = t.length + s.length := by rw [ht]; simp
       rw [List.length_drop] at this
       omega
      rw [← hq] at hv
      have hk := HK.out
      rw [hv] at hk
      have hR2 : (if τ.getD (-1 - cc).toNat [] = [] then growV l b (a.drop (i + 1)) q (τ.set (-1 - cc).toNat ((b.take q).drop p)) else if τ.getD (-1 - cc).toNat [] = (b.take q).drop p then growV l b (a.drop (i + 1)) q τ else none) = R := by
       rw [← hR1]
       conv => rhs; simp only [growV]
       rw [if_neg hp, if_neg hc, e]
       simp only [hqs.1]
      have htq : (b.take q).drop p = t := by
       rw [List.drop_take, ht, show q - p = t.length by omega]
       simp
      have HTQ := Aside0.mk htq
      have HTN := Aside0.mk htl
      have HR := Aside0.mk hR2
      have hq0 : (p : Int) ≤ (q : Int) := by omega
      have hq1 : (q : Int) ≤ (b.length : Int) := by omega
      have HK2 := Aside0.mk hk
      have hvar : ∃ v : Nat, v = (-1 - cc).toNat ∧ v < 24 ∧ wrap64 (-1 - cc) = (v : Int) := ⟨(-1 - cc).toNat, rfl, by omega, by unfold wrap64; omega⟩
      clear hk hv e hR1 hR2 htq htl htn ht hqs HK hq
      obtain ⟨v, hve, hv24, hvw⟩ := hvar
      rw [← hve] at HR
      have HVE := Aside0.mk hve
      have HVW := Aside0.mk hvw
      have hv0 : (0 : Int) ≤ (v : Int) := by omega
      have hv1 : (v : Int) < 24 := by omega
      clear hve hvw
      obtain ⟨hlen, cells, hheap, hsz24, hcells⟩ := HSIG.out
      obtain ⟨x, hx, hbc⟩ := hcells v hv24
      have hxc : wr.cell? ⟨g, v, none⟩ = some x := (blk_cell hheap v).trans hx
      have hxf : wr.frozen? ⟨g, v, none⟩ = false := blk_frozen hheap v
      obtain ⟨tv, htv⟩ : ∃ tv, tv = τ.getD v [] := ⟨_, rfl⟩
      rw [← htv] at hbc HR
      have HTV := Aside0.mk htv
      obtain ⟨XA, xc, rfl, hxl, hxC, hxn, hxs⟩ := hbc
      have HXC := Aside0.mk hxC
      have HXL := Aside0.mk hxl
      have HHEAP := Aside0.mk hheap
      have HCELLS := Aside0.mk hcells
      have HSZ24 := Aside0.mk hsz24
      have HLEN := Aside0.mk hlen
      have HXN := Aside0.mk hxn
      have HXS := Aside0.mk hxs
      clear htv hxl hxC hheap hcells hsz24 hlen hx hxn hxs
      have qn : ∀ (w : World) (a : Option Addr) (n c n' c' : Nat), (binOp .eql 23 (.slice a n c) (.slice none n' c')).run Tryd.prog w = .ok (.bool a.isNone) w := fun w a n c n' c' => Lib.run_eql_slice_nil w _ _ a n c n' c' Tryd.underlying23
      obtain ⟨i0, hi0', _, hsz, _⟩ := info_parts info3
      have hcut := cut_mid (P := Tryd.prog) 23 3 .i64 .i64 Tryd.underlying23 hi0' 1 hsz (some bd) b.length c2 (p : Int) (q : Int) hp0 hq0 hq1 HC2.out
      have hrow := Kd.C_mid (lo := p) (hi := q) (c := c2) HR2.out (by omega) (by omega) HC2.out
      obtain ⟨TA, hTA⟩ : ∃ TA, TA = (if c2 = p then some bd else (some bd : Option Addr).map (·.add (p * 1))) := ⟨_, rfl⟩
      obtain ⟨tc, htc⟩ : ∃ tc, tc = c2 - p := ⟨_, rfl⟩
      have htq := HTQ.out
      have htl := HTN.out
      have hql : t.length = q - p := by rw [← htq, List.length_drop, List.length_take]; omega
      rw [htq] at hrow HR
      simp only [Int.toNat_natCast] at hcut
      rw [← hTA, ← htc, ← hql] at hcut
      have hrow' : Kd.C (Kd.int .i64) w0 TA t.length t := by rw [hTA]; exact hrow
      have htlc : t.length ≤ tc := by have := HC2.out; rw [htc, hql]; omega
      have htA : t ≠ [] → TA ≠ none := by intro _; rw [hTA]; split <;> simp
      have HROW := Aside0.mk hrow'
      have HTC := Aside0.mk htlc
      have HTA := Aside0.mk htA
      have htne : t ≠ [] := by intro h; rw [h] at htl; simp at htl
      clear hrow hrow' htlc hTA htc htq htA hi0' hsz
      obtain ⟨ke, hke⟩ := (equal_ev tv t (by have := HXL.out; have := (HXC.out).2.1; omega)).rounds
      obtain ⟨ke2, hke2⟩ := (equal_ev t t (by omega)).rounds
      have HKE := Aside0.mk hke
      have HKE2 := Aside0.mk hke2
      have HTNE := Aside0.mk htne
      have HQP := Aside0.mk (show p < q ∧ q ≤ b.length by omega)
      clear hke hke2 hql htl
      by_cases htv0 : tv = []
      ·obtain ⟨rfl, rfl⟩ := HXN.out htv0
       subst htv0
       have hR3 := HR.out
       rw [if_pos rfl] at hR3
       have HR := Aside0.mk hR3
       have hke2 := HKE2.out
       have h1 : (decide (t = t)) = true := by simp
       rw [h1] at hke2
       have HKE2 := Aside0.mk hke2
       clear hR3 HXN HXS hke2 h1 htne
       go_wp2_with (first | (go_at_call 65; (with_reducible refine (term_Skip.calls k _ _ l _ _ b (p : Int) (q : Int) true _ (Kd.C_below HR0.out HB.out) HC0.out (Kd.C_below HR2.out HB.out) HC2.out HK2.out).mono ?_); rintro e w' ⟨rfl, ⟨nd, rfl⟩⟩))
       go_quiet ((go_at_call 54; (with_reducible refine (term_Number.calls cc (v : Int) _ (by unfold term_Number.f; exact congrArg some HVW.out)).mono ?_); rintro e w' ⟨rfl, ⟨nd, rfl⟩⟩; first | exact ⟨rfl, _, World.drewN_drewN _ _ _⟩ | exact ⟨rfl, _, rfl⟩ | exact ⟨rfl, _, Eq.trans (World.drewN_drewN _ _ _) (congrArg (World.drewN _) (Nat.add_assoc _ _ _))⟩))
       go_wp2_with fail
       refine (slices_Equal_int_int.calls ke2 _ _ t _ _ t true _ ?s1 HTC.out ?s2 HTC.out HKE2.out).mono ?_
       case s1 => exact Kd.C_below HROW.out (below_set (pw_below_drewN HB.out _) HG.out)
       case s2 => exact Kd.C_below HROW.out (below_set (pw_below_drewN HB.out _) HG.out)
       rintro e w' ⟨rfl, ⟨nd, rfl⟩⟩
       go_wp2
       go_roundg (gk - 1)
       case measure => have := HI.out; omega
       case rel => exact ⟨i + 1, q, τ.set v t, by first | rfl | go_num | (simp; done), by first | rfl | go_num | (simp; done), ⟨by have := HI.out; omega, by have := HI.out; omega⟩, HR, ⟨binds_set HLEN.out (blk_set HHEAP.out _ _) HSZ24.out HCELLS.out ⟨TA, tc, rfl, HTC.out, HROW.out, fun h => absurd h HTNE.out, HTA.out⟩⟩, ⟨pw_below_drewN (below_set (pw_below_drewN HB.out _) HG.out) _⟩⟩
      ·obtain ⟨xa, rfl⟩ : ∃ xa, XA = some xa := by
        cases XA with
        | none => exact absurd rfl (HXS.out htv0)
        | some xa => exact ⟨xa, rfl⟩
       have hR3 := HR.out
       rw [if_neg htv0] at hR3
       clear HXN HXS htne htv0
       by_cases htt : tv = t
       ·rw [if_pos htt] at hR3
        have HR := Aside0.mk hR3
        have hke := HKE.out
        have h1 : (decide (tv = t)) = true := by simpa using htt
        rw [h1] at hke
        have HKE := Aside0.mk hke
        clear hR3 hke h1 htt
        go_wp2_with (first | (go_at_call 65; (with_reducible refine (term_Skip.calls k _ _ l _ _ b (p : Int) (q : Int) true _ (Kd.C_below HR0.out HB.out) HC0.out (Kd.C_below HR2.out HB.out) HC2.out HK2.out).mono ?_); rintro e w' ⟨rfl, ⟨nd, rfl⟩⟩))
        go_quiet ((go_at_call 54; (with_reducible refine (term_Number.calls cc (v : Int) _ (by unfold term_Number.f; exact congrArg some HVW.out)).mono ?_); rintro e w' ⟨rfl, ⟨nd, rfl⟩⟩; first | exact ⟨rfl, _, World.drewN_drewN _ _ _⟩ | exact ⟨rfl, _, rfl⟩ | exact ⟨rfl, _, Eq.trans (World.drewN_drewN _ _ _) (congrArg (World.drewN _) (Nat.add_assoc _ _ _))⟩))
        go_wp2_with fail
        refine (slices_Equal_int_int.calls ke _ _ tv _ _ t true _ ?s1 HXL.out ?s2 HTC.out HKE.out).mono ?_
        case s1 => exact Kd.C_below HXC.out (pw_below_drewN HB.out _)
        case s2 => exact Kd.C_below HROW.out (pw_below_drewN HB.out _)
        rintro e w' ⟨rfl, ⟨nd, rfl⟩⟩
        go_wp2
        go_roundg (gk - 1)
        case measure => have := HI.out; omega
        case rel => exact ⟨i + 1, q, τ, by first | rfl | go_num | (simp; done), by first | rfl | go_num | (simp; done), ⟨by have := HI.out; omega, by have := HI.out; omega⟩, HR, ⟨⟨HLEN.out, _, HHEAP.out, HSZ24.out, HCELLS.out⟩⟩, ⟨pw_below_drewN HB.out _⟩⟩
       ·rw [if_neg htt] at hR3
        subst hR3
        have hke := HKE.out
        have h1 : (decide (tv = t)) = false := by simpa using htt
        rw [h1] at hke
        have HKE := Aside0.mk hke
        clear hke h1 htt
        go_wp2_with (first | (go_at_call 65; (with_reducible refine (term_Skip.calls k _ _ l _ _ b (p : Int) (q : Int) true _ (Kd.C_below HR0.out HB.out) HC0.out (Kd.C_below HR2.out HB.out) HC2.out HK2.out).mono ?_); rintro e w' ⟨rfl, ⟨nd, rfl⟩⟩))
        go_quiet ((go_at_call 54; (with_reducible refine (term_Number.calls cc (v : Int) _ (by unfold term_Number.f; exact congrArg some HVW.out)).mono ?_); rintro e w' ⟨rfl, ⟨nd, rfl⟩⟩; first | exact ⟨rfl, _, World.drewN_drewN _ _ _⟩ | exact ⟨rfl, _, rfl⟩ | exact ⟨rfl, _, Eq.trans (World.drewN_drewN _ _ _) (congrArg (World.drewN _) (Nat.add_assoc _ _ _))⟩))
        go_wp2_with fail
        refine (slices_Equal_int_int.calls ke _ _ tv _ _ t false _ ?s1 HXL.out ?s2 HTC.out HKE.out).mono ?_
        case s1 => exact Kd.C_below HXC.out (pw_below_drewN HB.out _)
        case s2 => exact Kd.C_below HROW.out (pw_below_drewN HB.out _)
        rintro e w' ⟨rfl, ⟨nd, rfl⟩⟩
        go_wp2
        go_ret
        exact ⟨rfl, fun _ h => by simp at h, pw_below_drewN HB.out _⟩
  ·have hia : i = a.length := by have := HI.out; omega
   have hR1 := HR.out
   rw [List.drop_eq_nil_of_le (by omega)] at hR1
   simp only [growV] at hR1
   subst hia
   clear hi
   by_cases hp : p = b.length
   ·rw [if_pos hp] at hR1
    subst hR1
    have h1 : ((p : Int) == (b.length : Int)) = true := by simp [hp]
    have h2 : (p == b.length) = true := by simp [hp]
    clear hp
    go_wp2
    go_ret
    exact ⟨rfl, fun σ' h => by obtain rfl := Option.some.inj h; exact HSIG.out, HB.out⟩
   ·rw [if_neg hp] at hR1
    subst hR1
    have h1 : ((p : Int) == (b.length : Int)) = false := by simp; omega
    have h2 : (p == b.length) = false := by simpa using hp
    clear hp
    go_wp2
    go_ret
    exact ⟨rfl, fun σ' h => absurd h (by simp), HB.out⟩
end Go.Proofs.YteffiodbflmfkaaDoor.PP
namespace Go.Proofs.YteffiodbflmfkaaDoor.PP
open Go Go.RowKit Go.Proofs.YteffiodbflmfkaaDoorW.PrintWords Go.Proofs.YteffiodbflmfkaaDoorW.PrintLast Go.Proofs.YteffiodbflmfkaaDoorW.PrintMore Go.Proofs.YteffiodbflmfkaaDoor
set_option linter.unusedVariables false
set_option linter.unusedSimpArgs false

/-- One bind as List tells it. -/
def bindOf (σ : List (List Int)) (v : Nat) : Option S66 := if σ.getD v [] ≠ [] ∧ (1 < (σ.getD v []).length ∨ rd (σ.getD v []) 0 ≠ -1 - (v : Int)) then some ⟨(v : Int), σ.getD v []⟩ else none
def listTo (σ : List (List Int)) : Nat → List S66
 | 0 => []
 | n + 1 => listTo σ n ++ (match bindOf σ n with | some b => [b] | none => [])
theorem listTo_length (σ : List (List Int)) : ∀ n, (listTo σ n).length ≤ n
 | 0 => by simp [listTo]
 | n + 1 => by
  have := listTo_length σ n
  simp only [listTo, List.length_append]
  cases bindOf σ n <;> simp <;> omega

theorem bindInfo : (Tryd.prog.info? 66).map (fun i => (i.zero, i.size, i.bytes)) = some (some (.agg #[.int .i64 0, .slice none 0 0]), 2, 32) := by kernel_rfl
theorem el_parts {α β : Type} {d : Kd α} {d' : Kd β} {e e' base : Nat} {W w1 : World} {u v : Value} {xs : List α} {ys : List β} (ho : d'.R e' w1 W.heap.size (fun _ => True) v ys) (hb : Below W.heap.size W w1) (hs : Kd.S d e W base (fun _ => True) u xs) (hl : base ≤ W.heap.size) :
  ∃ N, (∀ k, N ≤ k → True ∧ some k ≠ u.ownBlock) ∧ Kd.S d e w1 base (fun k => True ∧ ¬ N ≤ k) u xs ∧ d'.R e' w1 base (fun k => N ≤ k) v ys :=
 ⟨W.heap.size, fun k hk => ⟨trivial, fun e => Nat.lt_irrefl _ (Nat.lt_of_lt_of_le (Kd.S_lt hs k e.symm) hk)⟩, Kd.S_mono (Kd.S_old hs hb) (fun k hk => ⟨trivial, by have := hk.2; omega⟩), Kd.R_lower (Kd.R_mono (Kd.R_bound ho) (fun k hk => hk.2.1)) hl⟩
theorem growV_len {l : List S59} {b : List Int} (hb : b.length ≤ 48) : ∀ (a : List Int) (i : Nat) (σ σ' : List (List Int)), (∀ t ∈ σ, t.length ≤ 48) → growV l b a i σ = some σ' → ∀ t ∈ σ', t.length ≤ 48 := by
 intro a
 induction a with
 | nil =>
  intro i σ σ' h e
  simp only [growV] at e
  split at e
  ·obtain rfl := Option.some.inj e; exact h
  ·cases e
 | cons c a ih =>
  intro i σ σ' h e
  simp only [growV] at e
  split at e
  ·cases e
  ·split at e
   ·split at e
    ·exact ih _ _ _ h e
    ·cases e
   ·split at e
    ·cases e
    ·split at e
     ·refine ih _ _ _ (fun t ht => ?_) e
      rcases List.mem_or_eq_of_mem_set ht with h1 | h1
      ·exact h t h1
      ·rw [h1, List.length_drop, List.length_take]; omega
     ·split at e
      ·exact ih _ _ _ h e
      ·cases e
theorem row_codes {l : List S59} {r : List Int} (h : IsRow l r) : ∀ c ∈ r, -24 ≤ c := by
 obtain ⟨n, _, _, hn⟩ := h
 intro c hc
 obtain ⟨m, hm⟩ := isN_mem hn c hc
 rcases Int.lt_or_le c 0 with h | h
 ·exact (arS_neg h hm).2
 ·omega
def bindsNil : Array Value := #[.slice none 0 0, .slice none 0 0, .slice none 0 0, .slice none 0 0, .slice none 0 0, .slice none 0 0, .slice none 0 0, .slice none 0 0, .slice none 0 0, .slice none 0 0, .slice none 0 0, .slice none 0 0, .slice none 0 0, .slice none 0 0, .slice none 0 0, .slice none 0 0, .slice none 0 0, .slice none 0 0, .slice none 0 0, .slice none 0 0, .slice none 0 0, .slice none 0 0, .slice none 0 0, .slice none 0 0]
theorem bindsNil_eq : bindsNil = Array.replicate 24 (.slice none 0 0) := by kernel_rfl
theorem binds_new (w : World) : BindsAt w (w.alloc (.cells #[.slice none 0 0, .slice none 0 0, .slice none 0 0, .slice none 0 0, .slice none 0 0, .slice none 0 0, .slice none 0 0, .slice none 0 0, .slice none 0 0, .slice none 0 0, .slice none 0 0, .slice none 0 0, .slice none 0 0, .slice none 0 0, .slice none 0 0, .slice none 0 0, .slice none 0 0, .slice none 0 0, .slice none 0 0, .slice none 0 0, .slice none 0 0, .slice none 0 0, .slice none 0 0, .slice none 0 0] 75)) w.heap.size (List.replicate 24 []) := by
 show BindsAt w (w.alloc (.cells bindsNil 75)) w.heap.size (List.replicate 24 [])
 rw [bindsNil_eq]
 refine ⟨List.length_replicate, _, heap_alloc_new _ _, Array.size_replicate, fun v hv => ⟨.slice none 0 0, by rw [Array.getElem?_replicate, if_pos hv], ?_⟩⟩
 have e : (List.replicate 24 ([] : List Int)).getD v [] = [] := by
  rw [List.getD_eq_getElem?_getD, List.getElem?_replicate, if_pos hv]
  rfl
 rw [e]
 exact ⟨none, 0, rfl, Nat.le_refl _, ⟨rfl, by simp, fun h => absurd h (Nat.lt_irrefl 0)⟩, fun _ => ⟨rfl, rfl⟩, fun h => absurd rfl h⟩

/-- What Match answers. -/
noncomputable def matchV (l : List S59) (a b : List Int) : List S66 × Bool × Int :=
 open Classical in if IsRow l a ∧ IsRow l b then (match growV l b a 0 (List.replicate 24 []) with | some σ => (listTo σ 24, true, 0) | none => ([], false, 0)) else ([], false, 500)

open Classical in
theorem matchV_ok {l : List S59} {a b : List Int} (ha : IsRow l a) (hb : IsRow l b) : matchV l a b = match growV l b a 0 (List.replicate 24 []) with | some σ => (listTo σ 24, true, 0) | none => ([], false, 0) := by
 unfold matchV
 split
 ·cases growV l b a 0 (List.replicate 24 []) <;> rfl
 ·rename_i h
  exact absurd ⟨ha, hb⟩ h
end Go.Proofs.YteffiodbflmfkaaDoor.PP
