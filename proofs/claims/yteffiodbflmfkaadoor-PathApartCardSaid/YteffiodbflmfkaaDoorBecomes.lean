/- Does a text become another one? The program's becomes, walked. -/
import Derived.Test.YteffiodbflmfkaaDoorMatchs
import Derived.Test.YteffiodbflmfkaaDoorTerms
import Derived.Test.YteffiodbflmfkaaDoorPPx0
import Derived.Test.YteffiodbflmfkaaDoorPPx3
namespace Go.Proofs.YteffiodbflmfkaaDoor.PP
open Go Go.RowKit Go.Proofs.YteffiodbflmfkaaDoorW.PrintWords Go.Proofs.YteffiodbflmfkaaDoorW.PrintLast Go.Proofs.YteffiodbflmfkaaDoorW.PrintMore Go.Proofs.YteffiodbflmfkaaDoor
set_option linter.unusedVariables false
set_option linter.unusedSimpArgs false
open Classical in
noncomputable def becomesV (l : List S59) (a b : List Int) : Bool := if decide (Row l 1 a) = decide (Row l 1 b) then (growV l b a 0 (List.replicate 24 [])).isSome else false
theorem binds_below {w0 W W1 : World} {g : Nat} {σ : List (List Int)} (h : BindsAt w0 W g σ) (hb : Below W.heap.size W W1) : BindsAt w0 W1 g σ := by
 obtain ⟨hl, cells, hh, h2⟩ := h
 exact ⟨hl, cells, blk_below hh hb, h2⟩
set_option maxHeartbeats 1000000 in
set_option maxRecDepth 100000 in
theorem becomes_calls (A0 : Option Addr) (c0 : Nat) (l : List S59) (A1 : Option Addr) (c1 : Nat) (a : List Int) (A2 : Option Addr) (c2 : Nat) (b : List Int) (w : World)
  (hr0 : Kd.C k59 w A0 l.length l) (hc0 : l.length ≤ c0) (hr1 : Kd.C (Kd.int .i64) w A1 a.length a) (hc1 : a.length ≤ c1) (hr2 : Kd.C (Kd.int .i64) w A2 b.length b) (hc2 : b.length ≤ c2) (hG : Glob w) (hta : Text l a) (htb : Text l b) :
  Calls Tryd.prog 46 #[.slice A0 l.length c0, .slice A1 a.length c1, .slice A2 b.length c2] w fun e w' => e = .returned (.bool (becomesV l a b)) ∧ Below w.heap.size w w' := by
 classical
 have hub := Tryd.underlying75
 obtain ⟨ka, hka⟩ := (isTerm_ev l a).rounds
 obtain ⟨kb, hkb⟩ := (isTerm_ev l b).rounds
 obtain ⟨x, hx⟩ : ∃ x, x = decide (Row l 1 a) := ⟨_, rfl⟩
 obtain ⟨y, hy⟩ : ∃ y, y = decide (Row l 1 b) := ⟨_, rfl⟩
 rw [← hx] at hka
 rw [← hy] at hkb
 have hv : becomesV l a b = if x = y then (growV l b a 0 (List.replicate 24 [])).isSome else false := by rw [hx, hy]; rfl
 obtain ⟨R, hR⟩ : ∃ R, R = becomesV l a b := ⟨_, rfl⟩
 obtain ⟨G, hGG⟩ : ∃ G, G = (growV l b a 0 (List.replicate 24 [])).isSome := ⟨_, rfl⟩
 rw [← hGG] at hv
 have HGG := Aside0.mk hGG
 have HRV := Aside0.mk (hR.trans hv)
 rw [← hR]
 have HR0 := Aside0.mk hr0
 have HR1 := Aside0.mk hr1
 have HR2 := Aside0.mk hr2
 have HKA := Aside0.mk hka
 have HKB := Aside0.mk hkb
 have HTA := Aside0.mk hta
 have HTB := Aside0.mk htb
 clear hr0 hr1 hr2 hka hkb hx hy hv hta htb hR hGG
 go_enter Tryd.func46, Tryd.ntmps46
 obtain ⟨W1, hW1⟩ : ∃ W1, W1 = w.alloc (.cells bindsNil 75) := ⟨_, rfl⟩
 have HB1 := Aside0.mk (show Below w.heap.size w W1 by rw [hW1]; exact below_alloc (Below.refl _ _) _)
 have HN1 := Aside0.mk (show BindsAt w W1 w.heap.size (List.replicate 24 []) by rw [hW1]; exact binds_new w)
 have HG1 := Aside0.mk (hG.below HB1.out)
 have HW1 := Aside0.mk (show w.alloc (.cells #[.slice none 0 0, .slice none 0 0, .slice none 0 0, .slice none 0 0, .slice none 0 0, .slice none 0 0, .slice none 0 0, .slice none 0 0, .slice none 0 0, .slice none 0 0, .slice none 0 0, .slice none 0 0, .slice none 0 0, .slice none 0 0, .slice none 0 0, .slice none 0 0, .slice none 0 0, .slice none 0 0, .slice none 0 0, .slice none 0 0, .slice none 0 0, .slice none 0 0, .slice none 0 0, .slice none 0 0] 75) = W1 by rw [hW1]; rfl)
 clear hW1 hG
 go_wp2_with fail
 rw [HW1.out]
 refine (term_IsTerm.calls ka _ _ l _ _ a x _ (Kd.C_below HR0.out HB1.out) hc0 (Kd.C_below HR1.out HB1.out) hc1 HKA.out HG1.out).mono ?_
 rintro e w2 ⟨rfl, hb2⟩
 have HB2 := Aside0.mk hb2
 clear hb2
 go_wp2_with fail
 refine (term_IsTerm.calls kb _ _ l _ _ b y _ (Kd.C_below HR0.out (below_step HB1.out HB2.out)) hc0 (Kd.C_below HR2.out (below_step HB1.out HB2.out)) hc2 HKB.out (HG1.out.below HB2.out)).mono ?_
 rintro e w3 ⟨rfl, hb3⟩
 have HB3 := Aside0.mk (below_step HB2.out hb3)
 have HBW := Aside0.mk (below_step HB1.out HB3.out)
 clear hb3 HB2
 by_cases hxy : x = y
 ·subst hxy
  have e1 : (x == x) = true := by simp
  go_wp2_with fail
  refine (grow_calls w.heap.size A0 c0 l A1 c1 a A2 c2 b (List.replicate 24 []) w _ HTA.out.1 ?h2 ?h3 ?h4 HBW.out (Nat.le_refl _) (binds_below HN1.out HB3.out) HR0.out hc0 HR1.out hc1 HR2.out hc2).mono ?_
  case h2 => have := (text_len HTB.out).2.1; omega
  case h3 => have := (text_len HTA.out).2.1; omega
  case h4 => exact fun c hc => (text_codes HTA.out c hc).1
  rintro e w4 ⟨rfl, hσ, hb4⟩
  rw [← HGG.out]
  have HB4 := Aside0.mk hb4
  clear hσ hb4
  go_wp2
  go_ret
  exact ⟨by rw [HRV.out]; first | rfl | (simp; done), HB4.out⟩
 ·have e1 : (x == y) = false := by simpa using hxy
  have e2 : decide (x = y) = false := by simpa using hxy
  go_wp2
  go_ret
  exact ⟨by rw [HRV.out]; first | rfl | (simp [hxy]; done), HBW.out⟩
end Go.Proofs.YteffiodbflmfkaaDoor.PP
