/- Can two texts be made the same? The program's unite, walked. -/
import Derived.Test.YteffiodbflmfkaaDoorApartP
import Derived.Test.YteffiodbflmfkaaDoorAtoms
import Derived.Test.YteffiodbflmfkaaDoorPPx0
import Derived.Test.YteffiodbflmfkaaDoorPPx3
import Derived.Test.YteffiodbflmfkaaDoorPPx4
namespace Go.Proofs.YteffiodbflmfkaaDoor.PP
open Go Go.RowKit Go.Proofs.YteffiodbflmfkaaDoorW.PrintWords Go.Proofs.YteffiodbflmfkaaDoorW.PrintLast Go.Proofs.YteffiodbflmfkaaDoorW.PrintMore Go.Proofs.YteffiodbflmfkaaDoor
set_option linter.unusedVariables false
set_option linter.unusedSimpArgs false
section
variable {P : Program} {ops : Array Oper} {Q : Exit → Act → World → Prop} {md : Region.Mode} {S : World → Prop}
theorem take_at {i : Nat} {oi : Oper} {v : Value} {fuel : Nat} {listed : Array Bool} {a : Act} {w : World} (hi : ops.toList[i]? = some oi) (hs : Region.noSelect ops = true) (hf : Region.free md ops listed i = true) (hr : (Region.ready md ops listed).contains i = true) (hQ : ∀ c a w, Q (.panic c) (a.put oi.dst v) w → Q (.panic c) a w) (hy : YieldsIf P ops S oi v a) (hS : S w) (h : wpAnyH P md ops Q S fuel (listed.setIfInBounds i true) (a.put oi.dst v) w) : wpAnyH P md ops Q S (fuel + 1) listed a w :=
 wpAnyH_take (by rw [← Array.getElem?_toList]; exact hi) hs hf hr hQ hy hS h
theorem call_at {i : Nat} {o : Oper} {fuel : Nat} {listed : Array Bool} {a : Act} {w : World} (hr : Region.ready md ops listed = [i]) (ho : ops.toList[i]? = some o)
  (h : ∀ K : Act → World → Prop, Shut (∀ a w, S w → (S w → wpAnyH P md ops Q S fuel (listed.setIfInBounds i true) a w) → K a w) → if Region.wanted o (yielded ops a.tmps) = true then Oper.wp P o a w K Q else K (a.put o.dst undef) w) : wpAnyH P md ops Q S (fuel + 1) listed a w :=
 wpAnyH_ready hr (by simp) (AllReadyH.cons (by rw [← Array.getElem?_toList]; exact ho) h AllReadyH.nil)
end
theorem textT_text {l : List S59} {t : List Int} (h : TextT l t) : Text l t := h.2.elim text_term text_atom
theorem textT_ne {l : List S59} {t : List Int} (h : TextT l t) : t ≠ [] := (text_len (textT_text h)).2.2
theorem atom_rest {l : List S59} {t : List Int} (h : Atom l t) : IsRow l (t.drop 1) := by
 obtain ⟨p, r, rfl, _, _, _, hr⟩ := h
 exact ⟨_, hr⟩
open Classical in
noncomputable def uniteV (l : List S59) (a b : List Int) : Bool := if Row l 1 a ∧ Row l 1 b then apartV l a b else if rd a 0 = rd b 0 ∧ Atom l a ∧ Atom l b then apartV l (a.drop 1) (b.drop 1) else false
set_option maxHeartbeats 2000000 in
set_option maxRecDepth 100000 in
theorem unite_calls (A0 : Option Addr) (c0 : Nat) (l : List S59) (A1 : Option Addr) (c1 : Nat) (a : List Int) (A2 : Option Addr) (c2 : Nat) (b : List Int) (w : World)
  (hr0 : Kd.C k59 w A0 l.length l) (hc0 : l.length ≤ c0) (hr1 : Kd.C (Kd.int .i64) w A1 a.length a) (hc1 : a.length ≤ c1) (hr2 : Kd.C (Kd.int .i64) w A2 b.length b) (hc2 : b.length ≤ c2) (hG : Glob w) (hta : TextT l a) (htb : TextT l b) :
  Calls Tryd.prog 45 #[.slice A0 l.length c0, .slice A1 a.length c1, .slice A2 b.length c2] w fun e w' => e = .returned (.bool (uniteV l a b)) ∧ Below w.heap.size w w' := by
 classical
 obtain ⟨ka, hka⟩ := (isTerm_ev l a).rounds
 obtain ⟨kb, hkb⟩ := (isTerm_ev l b).rounds
 obtain ⟨R, hR⟩ : ∃ R, R = uniteV l a b := ⟨_, rfl⟩
 rw [← hR]
 have HRV := Aside0.mk (show R = if Row l 1 a ∧ Row l 1 b then apartV l a b else if rd a 0 = rd b 0 ∧ Atom l a ∧ Atom l b then apartV l (a.drop 1) (b.drop 1) else false from hR)
 have HR0 := Aside0.mk hr0
 have HR1 := Aside0.mk hr1
 have HR2 := Aside0.mk hr2
 have HC1 := Aside0.mk hc1
 have HC2 := Aside0.mk hc2
 have HTA := Aside0.mk hta
 have HTB := Aside0.mk htb
 obtain ⟨x, hx⟩ : ∃ x, x = decide (Row l 1 a) := ⟨_, rfl⟩
 obtain ⟨y, hy⟩ : ∃ y, y = decide (Row l 1 b) := ⟨_, rfl⟩
 rw [← hx] at hka
 rw [← hy] at hkb
 have HKA := Aside0.mk hka
 have HKB := Aside0.mk hkb
 have HX := Aside0.mk hx
 have HY := Aside0.mk hy
 clear hr0 hr1 hr2 hc1 hc2 hR hka hkb hx hy hta htb
 have la := List.length_pos_iff.2 (textT_ne HTA.out)
 have lb := List.length_pos_iff.2 (textT_ne HTB.out)
 go_enter Tryd.func45, Tryd.ntmps45
 go_wp2_with fail
 refine (term_IsTerm.calls ka _ _ l _ _ a x _ HR0.out hc0 HR1.out HC1.out HKA.out hG).mono ?_
 rintro e w1 ⟨rfl, hb1⟩
 have HB1 := Aside0.mk hb1
 clear hb1
 by_cases h1 : Row l 1 a
 case' neg =>
  have hx1 : x = false := by rw [HX.out]; exact decide_eq_false h1
  subst hx1
  have hno : ¬ (Row l 1 a ∧ Row l 1 b) := fun k => h1 k.1
  obtain ⟨w2, hw2⟩ : ∃ w2, w2 = w1 := ⟨_, rfl⟩
  rw [← hw2] at HB1 ⊢
  have HB2 := HB1
  clear hw2 HB1
 case' pos =>
  have hx1 : x = true := by rw [HX.out]; exact decide_eq_true h1
  subst hx1
  go_wp2_with fail
  refine (term_IsTerm.calls kb _ _ l _ _ b y _ (Kd.C_below HR0.out HB1.out) hc0 (Kd.C_below HR2.out HB1.out) HC2.out HKB.out (hG.below HB1.out)).mono ?_
  rintro e w2 ⟨rfl, hb2⟩
  have HB2 := Aside0.mk (below_step HB1.out hb2)
  clear hb2 HB1
  by_cases h2 : Row l 1 b
  case pos =>
   have hy1 : y = true := by rw [HY.out]; exact decide_eq_true h2
   subst hy1
   have HRV2 := Aside0.mk (show R = apartV l a b by rw [HRV.out, if_pos ⟨h1, h2⟩])
   go_wp2_with fail
   refine (apart_calls A0 c0 l A1 c1 a A2 c2 b _ (Kd.C_below HR0.out HB2.out) hc0 (Kd.C_below HR1.out HB2.out) HC1.out (Kd.C_below HR2.out HB2.out) HC2.out (hG.below HB2.out) ⟨1, h1⟩ ⟨1, h2⟩).mono ?_
   rintro e w3 ⟨rfl, hb3⟩
   have HB3 := Aside0.mk (below_step HB2.out hb3)
   rw [← HRV2.out]
   go_wp2
   go_ret
   exact ⟨by first | rfl | (simp; done), HB3.out⟩
  have hy1 : y = false := by rw [HY.out]; exact decide_eq_false h2
  subst hy1
  have hno : ¬ (Row l 1 a ∧ Row l 1 b) := fun k => h2 k.2
 all_goals
  obtain ⟨ad, rfl, hxa⟩ := Kd.at_int (Kd.C_below HR1.out HB2.out) 0 (by omega) (by omega)
  obtain ⟨bd, rfl, hxb⟩ := Kd.at_int (Kd.C_below HR2.out HB2.out) 0 (by omega) (by omega)
  rw [show ((0 : Int)).toNat = 0 from rfl, Addr.add_zero'] at hxa hxb
  have ga : (0 : Int) < (a.length : Int) := by omega
  have gb : (0 : Int) < (b.length : Int) := by omega
  obtain ⟨ca, hca⟩ : ∃ ca, ca = rd a 0 := ⟨_, rfl⟩
  obtain ⟨cb, hcb⟩ : ∃ cb, cb = rd b 0 := ⟨_, rfl⟩
  rw [← hca] at hxa HRV
  rw [← hcb] at hxb HRV
  have HKEEP := Aside0.mk (show ∀ w', Below w2.heap.size w2 w' → w'.cell? ad = some (.int .i64 ca) ∧ w'.cell? bd = some (.int .i64 cb) from fun w' h => ⟨pw_cell_below h hxa, pw_cell_below h hxb⟩)
  by_cases hab : ca = cb
  ·subst hab
   have e1 : (ca == ca) = true := by simp
   obtain ⟨kc, hkc⟩ := (isAtom_ev (l := l) a).rounds
   obtain ⟨kd, hkd⟩ := (isAtom_ev (l := l) b).rounds
   by_cases hAa : Atom l a
   ·rw [decide_eq_true hAa] at hkc
    have HKC := Aside0.mk (show ∀ W, Below w2.heap.size w2 W → Calls Tryd.prog 37 #[.slice A0 l.length c0, .slice (some ad) a.length c1] W fun e w' => e = .returned (.bool true) ∧ Below W.heap.size W w' from fun W h => term_IsAtom.calls kc _ _ l _ _ a true _ (Kd.C_below HR0.out (below_step HB2.out h)) hc0 (Kd.C_below HR1.out (below_step HB2.out h)) HC1.out hkc (hG.below (below_step HB2.out h)))
    by_cases hAb : Atom l b
    ·rw [decide_eq_true hAb] at hkd
     have HKD := Aside0.mk (show ∀ W, Below w2.heap.size w2 W → Calls Tryd.prog 37 #[.slice A0 l.length c0, .slice (some bd) b.length c2] W fun e w' => e = .returned (.bool true) ∧ Below W.heap.size W w' from fun W h => term_IsAtom.calls kd _ _ l _ _ b true _ (Kd.C_below HR0.out (below_step HB2.out h)) hc0 (Kd.C_below HR2.out (below_step HB2.out h)) HC2.out hkd (hG.below (below_step HB2.out h)))
     obtain ⟨j0, hj0', _, hjs, _⟩ := info_parts info3
     have hcx := cut_from (P := Tryd.prog) 23 3 .i64 Tryd.underlying23 hj0' 1 hjs (some ad) a.length c1 1 (by omega) (by omega)
     have hcy := cut_from (P := Tryd.prog) 23 3 .i64 Tryd.underlying23 hj0' 1 hjs (some bd) b.length c2 1 (by omega) (by omega)
     have t1 : (1 : Int).toNat = 1 := rfl
     rw [t1] at hcx hcy
     have hrx := Kd.C_drop (m := 1) (c := c1) HR1.out (by omega) HC1.out
     have hry := Kd.C_drop (m := 1) (c := c2) HR2.out (by omega) HC2.out
     obtain ⟨XT, hXT⟩ : ∃ XT, XT = (if c1 = 1 then some ad else (some ad : Option Addr).map (·.add (1 * 1))) := ⟨_, rfl⟩
     obtain ⟨YT, hYT⟩ : ∃ YT, YT = (if c2 = 1 then some bd else (some bd : Option Addr).map (·.add (1 * 1))) := ⟨_, rfl⟩
     rw [← hXT] at hcx
     rw [← hYT] at hcy
     have HRX := Aside0.mk (show Kd.C (Kd.int .i64) w XT (a.drop 1).length (a.drop 1) by rw [hXT]; exact hrx)
     have HRY := Aside0.mk (show Kd.C (Kd.int .i64) w YT (b.drop 1).length (b.drop 1) by rw [hYT]; exact hry)
     have HAP := Aside0.mk (show ∀ W, Below w2.heap.size w2 W → Calls Tryd.prog 58 #[.slice A0 l.length c0, .slice XT (a.length - 1) (c1 - 1), .slice YT (b.length - 1) (c2 - 1)] W fun e w' => e = .returned (.bool (apartV l (a.drop 1) (b.drop 1))) ∧ Below W.heap.size W w' from fun W h => by
      have hh := apart_calls A0 c0 l XT (c1 - 1) (a.drop 1) YT (c2 - 1) (b.drop 1) W (Kd.C_below HR0.out (below_step HB2.out h)) hc0 (Kd.C_below HRX.out (below_step HB2.out h)) (by rw [List.length_drop]; have := HC1.out; omega) (Kd.C_below HRY.out (below_step HB2.out h)) (by rw [List.length_drop]; have := HC2.out; omega) (hG.below (below_step HB2.out h)) (atom_rest hAa) (atom_rest hAb)
      rw [List.length_drop, List.length_drop] at hh
      exact hh)
     obtain ⟨Q, hQ⟩ : ∃ Q, Q = apartV l (a.drop 1) (b.drop 1) := ⟨_, rfl⟩
     rw [← hQ] at HAP
     have HRV2 := Aside0.mk (show R = Q by rw [HRV.out, hQ, if_neg hno, if_pos ⟨rfl, hAa, hAb⟩])
     clear hrx hry hXT hYT hkc hkd hj0' hjs hQ hca hcb
     go_wp2
     go_region_held3 (fun w' => w'.cell? ad = some (.int .i64 ca) ∧ w'.cell? bd = some (.int .i64 ca))
      (first | (refine HKEEP.out _ ?_; (repeat (first | exact Below.refl _ _ | exact hb7 | exact hb6 | exact hb5 | apply below_drew1)); done))
      (first | (go_at_call 37; (with_reducible refine (HKC.out _ ?sA).mono ?_); (case sA => (repeat (first | exact Below.refl _ _ | apply below_drew1))); rintro e w5 ⟨rfl, hb5⟩; replace hb5 := below_step (show Below w2.heap.size w2 _ from by repeat (first | exact Below.refl _ _ | apply below_drew1)) hb5) | (go_at_call 37; (with_reducible refine (HKD.out _ ?sB).mono ?_); (case sB => (repeat (first | exact hb5 | apply below_drew1))); rintro e w6 ⟨rfl, hb6⟩; replace hb6 := below_step (show Below w2.heap.size w2 _ from by repeat (first | exact hb5 | apply below_drew1)) hb6) | (go_at_call 58; (with_reducible refine (HAP.out _ ?sC).mono ?_); (case sC => (repeat (first | exact hb6 | apply below_drew1))); rintro e w7 ⟨rfl, hb7⟩; replace hb7 := below_step (show Below w2.heap.size w2 _ from by repeat (first | exact hb6 | apply below_drew1)) hb7))
     have HBE := Aside0.mk (below_step HB2.out hb7)
     go_wp2
     go_ret
     exact ⟨by rw [HRV2.out]; first | rfl | (simp; done), HBE.out⟩
    ·rw [decide_eq_false hAb] at hkd
     have HKD := Aside0.mk (show ∀ W, Below w2.heap.size w2 W → Calls Tryd.prog 37 #[.slice A0 l.length c0, .slice (some bd) b.length c2] W fun e w' => e = .returned (.bool false) ∧ Below W.heap.size W w' from fun W h => term_IsAtom.calls kd _ _ l _ _ b false _ (Kd.C_below HR0.out (below_step HB2.out h)) hc0 (Kd.C_below HR2.out (below_step HB2.out h)) HC2.out hkd (hG.below (below_step HB2.out h)))
     have HRV2 := Aside0.mk (show R = false by rw [HRV.out, if_neg hno, if_neg (fun k => hAb k.2.2)])
     clear hkc hkd hca hcb
     go_wp2
     refine wp_region_held_drew (S := (fun w' => w'.cell? ad = some (.int .i64 ca) ∧ w'.cell? bd = some (.int .i64 ca))) (by kernel_rfl) ?_ (fun hHeld => ?_)
     ·(try dsimp only); (first | (refine HKEEP.out _ ?_; (repeat (first | exact Below.refl _ _ | exact hb6 | exact hb5 | apply below_drew1)); done))
     refine take_at (i := 0) (v := ?_) rfl (by kernel_rfl) (by kernel_rfl) (by kernel_rfl) (fun _ _ _ h => h) (Or.inl ⟨by rfl, ?_⟩) (by assumption) ?_; rotate_left; (intro w' hSw; (try dsimp only at hSw); go_simp; (try with_reducible rfl)); (try simp only [Act.put, List.setIfInBounds_toArray, List.set_cons_zero, List.set_cons_succ])
     refine take_at (i := 1) (v := ?_) rfl (by kernel_rfl) (by kernel_rfl) (by kernel_rfl) (fun _ _ _ h => h) (Or.inl ⟨by rfl, ?_⟩) (by assumption) ?_; rotate_left; (intro w' hSw; (try dsimp only at hSw); go_simp; (try with_reducible rfl)); (try simp only [Act.put, List.setIfInBounds_toArray, List.set_cons_zero, List.set_cons_succ])
     refine take_at (i := 2) (v := ?_) rfl (by kernel_rfl) (by kernel_rfl) (by kernel_rfl) (fun _ _ _ h => h) (Or.inl ⟨by rfl, ?_⟩) (by assumption) ?_; rotate_left; (intro w' hSw; (try dsimp only at hSw); go_simp; (try with_reducible rfl)); (try simp only [Act.put, List.setIfInBounds_toArray, List.set_cons_zero, List.set_cons_succ])
     refine take_at (i := 3) (v := ?_) rfl (by kernel_rfl) (by kernel_rfl) (by kernel_rfl) (fun _ _ _ h => h) (Or.inl ⟨by rfl, ?_⟩) (by assumption) ?_; rotate_left; (intro w' hSw; (try dsimp only at hSw); go_simp; (try with_reducible rfl)); (try simp only [Act.put, List.setIfInBounds_toArray, List.set_cons_zero, List.set_cons_succ])
     refine take_at (i := 4) (v := ?_) rfl (by kernel_rfl) (by kernel_rfl) (by kernel_rfl) (fun _ _ _ h => h) (Or.inl ⟨by rfl, ?_⟩) (by assumption) ?_; rotate_left; (intro w' hSw; (try dsimp only at hSw); go_simp; (try with_reducible rfl)); (try simp only [Act.put, List.setIfInBounds_toArray, List.set_cons_zero, List.set_cons_succ])
     refine take_at (i := 5) (v := ?_) rfl (by kernel_rfl) (by kernel_rfl) (by kernel_rfl) (fun _ _ _ h => h) (Or.inl ⟨by rfl, ?_⟩) (by assumption) ?_; rotate_left; (intro w' hSw; (try dsimp only at hSw); go_simp; (try with_reducible rfl)); (try simp only [Act.put, List.setIfInBounds_toArray, List.set_cons_zero, List.set_cons_succ])
     refine take_at (i := 6) (v := ?_) rfl (by kernel_rfl) (by kernel_rfl) (by kernel_rfl) (fun _ _ _ h => h) (Or.inl ⟨by rfl, ?_⟩) (by assumption) ?_; rotate_left; (intro w' hSw; (try dsimp only at hSw); go_simp; (try with_reducible rfl)); (try simp only [Act.put, List.setIfInBounds_toArray, List.set_cons_zero, List.set_cons_succ])
     refine take_at (i := 7) (v := ?_) rfl (by kernel_rfl) (by kernel_rfl) (by kernel_rfl) (fun _ _ _ h => h) (Or.inl ⟨by rfl, ?_⟩) (by assumption) ?_; rotate_left; (intro w' hSw; (try dsimp only at hSw); go_simp; (try with_reducible rfl)); (try simp only [Act.put, List.setIfInBounds_toArray, List.set_cons_zero, List.set_cons_succ])
     refine take_at (i := 8) (v := ?_) rfl (by kernel_rfl) (by kernel_rfl) (by kernel_rfl) (fun _ _ _ h => h) (Or.inl ⟨by rfl, ?_⟩) (by assumption) ?_; rotate_left; (intro w' hSw; (try dsimp only at hSw); go_simp; (try with_reducible rfl)); (try simp only [Act.put, List.setIfInBounds_toArray, List.set_cons_zero, List.set_cons_succ])
     refine take_at (i := 9) (v := ?_) rfl (by kernel_rfl) (by kernel_rfl) (by kernel_rfl) (fun _ _ _ h => h) (Or.inl ⟨by rfl, ?_⟩) (by assumption) ?_; rotate_left; (intro w' hSw; (try dsimp only at hSw); go_simp; (try with_reducible rfl)); (try simp only [Act.put, List.setIfInBounds_toArray, List.set_cons_zero, List.set_cons_succ])
     refine call_at (i := 10) (by kernel_rfl) rfl (fun K hK => ?_)
     go_simp
     (first | (go_at_call 37; (with_reducible refine (HKC.out _ ?sA).mono ?_); (case sA => (repeat (first | exact Below.refl _ _ | apply below_drew1))); rintro e w5 ⟨rfl, hb5⟩; replace hb5 := below_step (show Below w2.heap.size w2 _ from by repeat (first | exact Below.refl _ _ | apply below_drew1)) hb5) | (go_at_call 37; (with_reducible refine (HKD.out _ ?sB).mono ?_); (case sB => (repeat (first | exact hb5 | apply below_drew1))); rintro e w6 ⟨rfl, hb6⟩; replace hb6 := below_step (show Below w2.heap.size w2 _ from by repeat (first | exact hb5 | apply below_drew1)) hb6))
     refine hK.out _ _ ?_ (fun hHeld => ?_)
     ·(try dsimp only); (first | (refine HKEEP.out _ ?_; (repeat (first | exact Below.refl _ _ | exact hb6 | exact hb5 | apply below_drew1)); done))
     clear hK K
     (try simp only [Act.put, List.setIfInBounds_toArray, List.set_cons_zero, List.set_cons_succ])
     refine take_at (i := 11) (v := ?_) rfl (by kernel_rfl) (by kernel_rfl) (by kernel_rfl) (fun _ _ _ h => h) (Or.inl ⟨by rfl, ?_⟩) (by assumption) ?_; rotate_left; (intro w' hSw; (try dsimp only at hSw); go_simp; (try with_reducible rfl)); (try simp only [Act.put, List.setIfInBounds_toArray, List.set_cons_zero, List.set_cons_succ])
     refine take_at (i := 12) (v := ?_) rfl (by kernel_rfl) (by kernel_rfl) (by kernel_rfl) (fun _ _ _ h => h) (Or.inl ⟨by rfl, ?_⟩) (by assumption) ?_; rotate_left; (intro w' hSw; (try dsimp only at hSw); go_simp; (try with_reducible rfl)); (try simp only [Act.put, List.setIfInBounds_toArray, List.set_cons_zero, List.set_cons_succ])
     refine take_at (i := 13) (v := ?_) rfl (by kernel_rfl) (by kernel_rfl) (by kernel_rfl) (fun _ _ _ h => h) (Or.inl ⟨by rfl, ?_⟩) (by assumption) ?_; rotate_left; (intro w' hSw; (try dsimp only at hSw); go_simp; (try with_reducible rfl)); (try simp only [Act.put, List.setIfInBounds_toArray, List.set_cons_zero, List.set_cons_succ])
     refine take_at (i := 14) (v := ?_) rfl (by kernel_rfl) (by kernel_rfl) (by kernel_rfl) (fun _ _ _ h => h) (Or.inl ⟨by rfl, ?_⟩) (by assumption) ?_; rotate_left; (intro w' hSw; (try dsimp only at hSw); go_simp; (try with_reducible rfl)); (try simp only [Act.put, List.setIfInBounds_toArray, List.set_cons_zero, List.set_cons_succ])
     refine call_at (i := 15) (by kernel_rfl) rfl (fun K hK => ?_)
     go_simp
     (first | (go_at_call 37; (with_reducible refine (HKC.out _ ?sA).mono ?_); (case sA => (repeat (first | exact Below.refl _ _ | apply below_drew1))); rintro e w5 ⟨rfl, hb5⟩; replace hb5 := below_step (show Below w2.heap.size w2 _ from by repeat (first | exact Below.refl _ _ | apply below_drew1)) hb5) | (go_at_call 37; (with_reducible refine (HKD.out _ ?sB).mono ?_); (case sB => (repeat (first | exact hb5 | apply below_drew1))); rintro e w6 ⟨rfl, hb6⟩; replace hb6 := below_step (show Below w2.heap.size w2 _ from by repeat (first | exact hb5 | apply below_drew1)) hb6))
     refine hK.out _ _ ?_ (fun hHeld => ?_)
     ·(try dsimp only); (first | (refine HKEEP.out _ ?_; (repeat (first | exact Below.refl _ _ | exact hb6 | exact hb5 | apply below_drew1)); done))
     clear hK K
     (try simp only [Act.put, List.setIfInBounds_toArray, List.set_cons_zero, List.set_cons_succ])
     refine take_at (i := 16) (v := ?_) rfl (by kernel_rfl) (by kernel_rfl) (by kernel_rfl) (fun _ _ _ h => h) (Or.inl ⟨by rfl, ?_⟩) (by assumption) ?_; rotate_left; (intro w' hSw; (try dsimp only at hSw); go_simp; (try with_reducible rfl)); (try simp only [Act.put, List.setIfInBounds_toArray, List.set_cons_zero, List.set_cons_succ])
     refine take_at (i := 17) (v := ?_) rfl (by kernel_rfl) (by kernel_rfl) (by kernel_rfl) (fun _ _ _ h => h) (Or.inl ⟨by rfl, ?_⟩) (by assumption) ?_; rotate_left; (intro w' hSw; (try dsimp only at hSw); go_simp; (try with_reducible rfl)); (try simp only [Act.put, List.setIfInBounds_toArray, List.set_cons_zero, List.set_cons_succ])
     refine take_at (i := 18) (v := undef) rfl (by kernel_rfl) (by kernel_rfl) (by kernel_rfl) (fun _ _ _ h => h) (Or.inr ⟨by rfl, rfl⟩) (by assumption) ?_; (try simp only [Act.put, List.setIfInBounds_toArray, List.set_cons_zero, List.set_cons_succ])
     refine take_at (i := 19) (v := undef) rfl (by kernel_rfl) (by kernel_rfl) (by kernel_rfl) (fun _ _ _ h => h) (Or.inr ⟨by rfl, rfl⟩) (by assumption) ?_; (try simp only [Act.put, List.setIfInBounds_toArray, List.set_cons_zero, List.set_cons_succ])
     refine take_at (i := 20) (v := undef) rfl (by kernel_rfl) (by kernel_rfl) (by kernel_rfl) (fun _ _ _ h => h) (Or.inr ⟨by rfl, rfl⟩) (by assumption) ?_; (try simp only [Act.put, List.setIfInBounds_toArray, List.set_cons_zero, List.set_cons_succ])
     refine take_at (i := 21) (v := undef) rfl (by kernel_rfl) (by kernel_rfl) (by kernel_rfl) (fun _ _ _ h => h) (Or.inr ⟨by rfl, rfl⟩) (by assumption) ?_; (try simp only [Act.put, List.setIfInBounds_toArray, List.set_cons_zero, List.set_cons_succ])
     refine take_at (i := 22) (v := undef) rfl (by kernel_rfl) (by kernel_rfl) (by kernel_rfl) (fun _ _ _ h => h) (Or.inr ⟨by rfl, rfl⟩) (by assumption) ?_; (try simp only [Act.put, List.setIfInBounds_toArray, List.set_cons_zero, List.set_cons_succ])
     refine take_at (i := 23) (v := undef) rfl (by kernel_rfl) (by kernel_rfl) (by kernel_rfl) (fun _ _ _ h => h) (Or.inr ⟨by rfl, rfl⟩) (by assumption) ?_; (try simp only [Act.put, List.setIfInBounds_toArray, List.set_cons_zero, List.set_cons_succ])
     refine take_at (i := 24) (v := ?_) rfl (by kernel_rfl) (by kernel_rfl) (by kernel_rfl) (fun _ _ _ h => h) (Or.inl ⟨by rfl, ?_⟩) (by assumption) ?_; rotate_left; (intro w' hSw; (try dsimp only at hSw); go_simp; (try with_reducible rfl)); (try simp only [Act.put, List.setIfInBounds_toArray, List.set_cons_zero, List.set_cons_succ])
     refine take_at (i := 25) (v := ?_) rfl (by kernel_rfl) (by kernel_rfl) (by kernel_rfl) (fun _ _ _ h => h) (Or.inl ⟨by rfl, ?_⟩) (by assumption) ?_; rotate_left; (intro w' hSw; (try dsimp only at hSw); go_simp; (try with_reducible rfl)); (try simp only [Act.put, List.setIfInBounds_toArray, List.set_cons_zero, List.set_cons_succ])
     refine wpAnyH_done (by kernel_rfl) ?_ _
     have HBE := Aside0.mk (below_step HB2.out (show Below w2.heap.size w2 _ from by repeat (first | exact hb6 | apply below_drew1)))
     go_wp2
     go_ret
     exact ⟨by rw [HRV2.out]; first | rfl | (simp; done), HBE.out⟩
   ·rw [decide_eq_false hAa] at hkc
    have HKC := Aside0.mk (show ∀ W, Below w2.heap.size w2 W → Calls Tryd.prog 37 #[.slice A0 l.length c0, .slice (some ad) a.length c1] W fun e w' => e = .returned (.bool false) ∧ Below W.heap.size W w' from fun W h => term_IsAtom.calls kc _ _ l _ _ a false _ (Kd.C_below HR0.out (below_step HB2.out h)) hc0 (Kd.C_below HR1.out (below_step HB2.out h)) HC1.out hkc (hG.below (below_step HB2.out h)))
    have HRV2 := Aside0.mk (show R = false by rw [HRV.out, if_neg hno, if_neg (fun k => hAa k.2.1)])
    clear hkc hkd hca hcb
    go_wp2
    refine wp_region_held_drew (S := (fun w' => w'.cell? ad = some (.int .i64 ca) ∧ w'.cell? bd = some (.int .i64 ca))) (by kernel_rfl) ?_ (fun hHeld => ?_)
    ·(try dsimp only); (first | (refine HKEEP.out _ ?_; (repeat (first | exact Below.refl _ _ | exact hb5 | apply below_drew1)); done))
    refine take_at (i := 0) (v := ?_) rfl (by kernel_rfl) (by kernel_rfl) (by kernel_rfl) (fun _ _ _ h => h) (Or.inl ⟨by rfl, ?_⟩) (by assumption) ?_; rotate_left; (intro w' hSw; (try dsimp only at hSw); go_simp; (try with_reducible rfl)); (try simp only [Act.put, List.setIfInBounds_toArray, List.set_cons_zero, List.set_cons_succ])
    refine take_at (i := 1) (v := ?_) rfl (by kernel_rfl) (by kernel_rfl) (by kernel_rfl) (fun _ _ _ h => h) (Or.inl ⟨by rfl, ?_⟩) (by assumption) ?_; rotate_left; (intro w' hSw; (try dsimp only at hSw); go_simp; (try with_reducible rfl)); (try simp only [Act.put, List.setIfInBounds_toArray, List.set_cons_zero, List.set_cons_succ])
    refine take_at (i := 2) (v := ?_) rfl (by kernel_rfl) (by kernel_rfl) (by kernel_rfl) (fun _ _ _ h => h) (Or.inl ⟨by rfl, ?_⟩) (by assumption) ?_; rotate_left; (intro w' hSw; (try dsimp only at hSw); go_simp; (try with_reducible rfl)); (try simp only [Act.put, List.setIfInBounds_toArray, List.set_cons_zero, List.set_cons_succ])
    refine take_at (i := 3) (v := ?_) rfl (by kernel_rfl) (by kernel_rfl) (by kernel_rfl) (fun _ _ _ h => h) (Or.inl ⟨by rfl, ?_⟩) (by assumption) ?_; rotate_left; (intro w' hSw; (try dsimp only at hSw); go_simp; (try with_reducible rfl)); (try simp only [Act.put, List.setIfInBounds_toArray, List.set_cons_zero, List.set_cons_succ])
    refine take_at (i := 4) (v := ?_) rfl (by kernel_rfl) (by kernel_rfl) (by kernel_rfl) (fun _ _ _ h => h) (Or.inl ⟨by rfl, ?_⟩) (by assumption) ?_; rotate_left; (intro w' hSw; (try dsimp only at hSw); go_simp; (try with_reducible rfl)); (try simp only [Act.put, List.setIfInBounds_toArray, List.set_cons_zero, List.set_cons_succ])
    refine take_at (i := 5) (v := ?_) rfl (by kernel_rfl) (by kernel_rfl) (by kernel_rfl) (fun _ _ _ h => h) (Or.inl ⟨by rfl, ?_⟩) (by assumption) ?_; rotate_left; (intro w' hSw; (try dsimp only at hSw); go_simp; (try with_reducible rfl)); (try simp only [Act.put, List.setIfInBounds_toArray, List.set_cons_zero, List.set_cons_succ])
    refine take_at (i := 6) (v := ?_) rfl (by kernel_rfl) (by kernel_rfl) (by kernel_rfl) (fun _ _ _ h => h) (Or.inl ⟨by rfl, ?_⟩) (by assumption) ?_; rotate_left; (intro w' hSw; (try dsimp only at hSw); go_simp; (try with_reducible rfl)); (try simp only [Act.put, List.setIfInBounds_toArray, List.set_cons_zero, List.set_cons_succ])
    refine take_at (i := 7) (v := ?_) rfl (by kernel_rfl) (by kernel_rfl) (by kernel_rfl) (fun _ _ _ h => h) (Or.inl ⟨by rfl, ?_⟩) (by assumption) ?_; rotate_left; (intro w' hSw; (try dsimp only at hSw); go_simp; (try with_reducible rfl)); (try simp only [Act.put, List.setIfInBounds_toArray, List.set_cons_zero, List.set_cons_succ])
    refine take_at (i := 8) (v := ?_) rfl (by kernel_rfl) (by kernel_rfl) (by kernel_rfl) (fun _ _ _ h => h) (Or.inl ⟨by rfl, ?_⟩) (by assumption) ?_; rotate_left; (intro w' hSw; (try dsimp only at hSw); go_simp; (try with_reducible rfl)); (try simp only [Act.put, List.setIfInBounds_toArray, List.set_cons_zero, List.set_cons_succ])
    refine take_at (i := 9) (v := ?_) rfl (by kernel_rfl) (by kernel_rfl) (by kernel_rfl) (fun _ _ _ h => h) (Or.inl ⟨by rfl, ?_⟩) (by assumption) ?_; rotate_left; (intro w' hSw; (try dsimp only at hSw); go_simp; (try with_reducible rfl)); (try simp only [Act.put, List.setIfInBounds_toArray, List.set_cons_zero, List.set_cons_succ])
    refine call_at (i := 10) (by kernel_rfl) rfl (fun K hK => ?_)
    go_simp
    (first | (go_at_call 37; (with_reducible refine (HKC.out _ ?sA).mono ?_); (case sA => (repeat (first | exact Below.refl _ _ | apply below_drew1))); rintro e w5 ⟨rfl, hb5⟩; replace hb5 := below_step (show Below w2.heap.size w2 _ from by repeat (first | exact Below.refl _ _ | apply below_drew1)) hb5))
    refine hK.out _ _ ?_ (fun hHeld => ?_)
    ·(try dsimp only); (first | (refine HKEEP.out _ ?_; (repeat (first | exact Below.refl _ _ | exact hb5 | apply below_drew1)); done))
    clear hK K
    (try simp only [Act.put, List.setIfInBounds_toArray, List.set_cons_zero, List.set_cons_succ])
    refine take_at (i := 11) (v := ?_) rfl (by kernel_rfl) (by kernel_rfl) (by kernel_rfl) (fun _ _ _ h => h) (Or.inl ⟨by rfl, ?_⟩) (by assumption) ?_; rotate_left; (intro w' hSw; (try dsimp only at hSw); go_simp; (try with_reducible rfl)); (try simp only [Act.put, List.setIfInBounds_toArray, List.set_cons_zero, List.set_cons_succ])
    refine take_at (i := 12) (v := ?_) rfl (by kernel_rfl) (by kernel_rfl) (by kernel_rfl) (fun _ _ _ h => h) (Or.inl ⟨by rfl, ?_⟩) (by assumption) ?_; rotate_left; (intro w' hSw; (try dsimp only at hSw); go_simp; (try with_reducible rfl)); (try simp only [Act.put, List.setIfInBounds_toArray, List.set_cons_zero, List.set_cons_succ])
    refine take_at (i := 13) (v := undef) rfl (by kernel_rfl) (by kernel_rfl) (by kernel_rfl) (fun _ _ _ h => h) (Or.inr ⟨by rfl, rfl⟩) (by assumption) ?_; (try simp only [Act.put, List.setIfInBounds_toArray, List.set_cons_zero, List.set_cons_succ])
    refine take_at (i := 14) (v := undef) rfl (by kernel_rfl) (by kernel_rfl) (by kernel_rfl) (fun _ _ _ h => h) (Or.inr ⟨by rfl, rfl⟩) (by assumption) ?_; (try simp only [Act.put, List.setIfInBounds_toArray, List.set_cons_zero, List.set_cons_succ])
    refine take_at (i := 15) (v := undef) rfl (by kernel_rfl) (by kernel_rfl) (by kernel_rfl) (fun _ _ _ h => h) (Or.inr ⟨by rfl, rfl⟩) (by assumption) ?_; (try simp only [Act.put, List.setIfInBounds_toArray, List.set_cons_zero, List.set_cons_succ])
    refine take_at (i := 16) (v := ?_) rfl (by kernel_rfl) (by kernel_rfl) (by kernel_rfl) (fun _ _ _ h => h) (Or.inl ⟨by rfl, ?_⟩) (by assumption) ?_; rotate_left; (intro w' hSw; (try dsimp only at hSw); go_simp; (try with_reducible rfl)); (try simp only [Act.put, List.setIfInBounds_toArray, List.set_cons_zero, List.set_cons_succ])
    refine take_at (i := 17) (v := ?_) rfl (by kernel_rfl) (by kernel_rfl) (by kernel_rfl) (fun _ _ _ h => h) (Or.inl ⟨by rfl, ?_⟩) (by assumption) ?_; rotate_left; (intro w' hSw; (try dsimp only at hSw); go_simp; (try with_reducible rfl)); (try simp only [Act.put, List.setIfInBounds_toArray, List.set_cons_zero, List.set_cons_succ])
    refine take_at (i := 18) (v := undef) rfl (by kernel_rfl) (by kernel_rfl) (by kernel_rfl) (fun _ _ _ h => h) (Or.inr ⟨by rfl, rfl⟩) (by assumption) ?_; (try simp only [Act.put, List.setIfInBounds_toArray, List.set_cons_zero, List.set_cons_succ])
    refine take_at (i := 19) (v := undef) rfl (by kernel_rfl) (by kernel_rfl) (by kernel_rfl) (fun _ _ _ h => h) (Or.inr ⟨by rfl, rfl⟩) (by assumption) ?_; (try simp only [Act.put, List.setIfInBounds_toArray, List.set_cons_zero, List.set_cons_succ])
    refine take_at (i := 20) (v := undef) rfl (by kernel_rfl) (by kernel_rfl) (by kernel_rfl) (fun _ _ _ h => h) (Or.inr ⟨by rfl, rfl⟩) (by assumption) ?_; (try simp only [Act.put, List.setIfInBounds_toArray, List.set_cons_zero, List.set_cons_succ])
    refine take_at (i := 21) (v := undef) rfl (by kernel_rfl) (by kernel_rfl) (by kernel_rfl) (fun _ _ _ h => h) (Or.inr ⟨by rfl, rfl⟩) (by assumption) ?_; (try simp only [Act.put, List.setIfInBounds_toArray, List.set_cons_zero, List.set_cons_succ])
    refine take_at (i := 22) (v := undef) rfl (by kernel_rfl) (by kernel_rfl) (by kernel_rfl) (fun _ _ _ h => h) (Or.inr ⟨by rfl, rfl⟩) (by assumption) ?_; (try simp only [Act.put, List.setIfInBounds_toArray, List.set_cons_zero, List.set_cons_succ])
    refine take_at (i := 23) (v := undef) rfl (by kernel_rfl) (by kernel_rfl) (by kernel_rfl) (fun _ _ _ h => h) (Or.inr ⟨by rfl, rfl⟩) (by assumption) ?_; (try simp only [Act.put, List.setIfInBounds_toArray, List.set_cons_zero, List.set_cons_succ])
    refine take_at (i := 24) (v := ?_) rfl (by kernel_rfl) (by kernel_rfl) (by kernel_rfl) (fun _ _ _ h => h) (Or.inl ⟨by rfl, ?_⟩) (by assumption) ?_; rotate_left; (intro w' hSw; (try dsimp only at hSw); go_simp; (try with_reducible rfl)); (try simp only [Act.put, List.setIfInBounds_toArray, List.set_cons_zero, List.set_cons_succ])
    refine take_at (i := 25) (v := ?_) rfl (by kernel_rfl) (by kernel_rfl) (by kernel_rfl) (fun _ _ _ h => h) (Or.inl ⟨by rfl, ?_⟩) (by assumption) ?_; rotate_left; (intro w' hSw; (try dsimp only at hSw); go_simp; (try with_reducible rfl)); (try simp only [Act.put, List.setIfInBounds_toArray, List.set_cons_zero, List.set_cons_succ])
    refine wpAnyH_done (by kernel_rfl) ?_ _
    have HBE := Aside0.mk (below_step HB2.out (show Below w2.heap.size w2 _ from by repeat (first | exact hb5 | apply below_drew1)))
    go_wp2
    go_ret
    exact ⟨by rw [HRV2.out]; first | rfl | (simp; done), HBE.out⟩
  ·have e1 : (ca == cb) = false := by simpa using hab
   have e2 : decide (ca = cb) = false := by simpa using hab
   have HRV2 := Aside0.mk (show R = false by rw [HRV.out, if_neg hno, if_neg (fun k => hab k.1)])
   clear hab hca hcb
   go_wp2
   go_quiet (fail)
   have HBE := Aside0.mk (pw_below_drewN HB2.out nq)
   go_wp2
   go_ret
   exact ⟨by rw [HRV2.out]; first | rfl | (simp; done), HBE.out⟩
end Go.Proofs.YteffiodbflmfkaaDoor.PP
