/- PathApart, plainly. -/
import Derived.Test.YteffiodbflmfkaaDoorWantPathApart
import Derived.Test.YteffiodbflmfkaaDoorAwake12
import Derived.Test.YteffiodbflmfkaaDoorPathW
import Derived.Test.YteffiodbflmfkaaDoorPPx0
import Derived.Test.YteffiodbflmfkaaDoorPPx6
import Derived.Test.YteffiodbflmfkaaDoorPPx29
namespace Go.Proofs.YteffiodbflmfkaaDoor.PP
open Go Go.RowKit Go.Proofs.YteffiodbflmfkaaDoorW.PrintWords Go.Proofs.YteffiodbflmfkaaDoorW.PrintLast Go.Proofs.YteffiodbflmfkaaDoor
set_option linter.unusedVariables false
set_option linter.unusedSimpArgs false
/-- A code stands at the end of a way. -/
inductive At12 (l : List S59) : List Int → Int → List Int → Prop
 | here (c : Int) (r : List Int) : At12 l [] c (c :: r)
 | there (c0 : Int) (r : List Int) (i : Nat) (p w : List Int) (c : Int) (hp : (pcsU l r)[i]? = some p) (h : At12 l w c p) : At12 l ((i : Int) :: w) c (c0 :: r)
theorem pathRs_mem {f : List Int → List Int → List (List Int)} {way x : List Int} : ∀ (ps : List (List Int)) (i : Nat), x ∈ pathRs f way i ps → ∃ (j : Nat) (p : List Int), ps[j]? = some p ∧ x ∈ f (way ++ [((i + j : Nat) : Int)]) p := by
 intro ps
 induction ps with
 | nil => intro i h; cases h
 | cons p ps ih =>
  intro i h
  simp only [pathRs] at h
  rcases List.mem_append.1 h with h | h
  ·exact ⟨0, p, rfl, h⟩
  ·obtain ⟨j, q, h1, h2⟩ := ih (i + 1) h
   refine ⟨j + 1, q, h1, ?_⟩
   rw [show i + (j + 1) = i + 1 + j by omega]
   exact h2
theorem path_mem {l : List S59} : ∀ (k : Nat) (way t x : List Int), TextS l t → t.length ≤ k + 1 → x ∈ pathR l k way t → ∃ w c, At12 l w c t ∧ x = way ++ w ++ [endC c] := by
 intro k
 induction k with
 | zero =>
  intro way t x ht _ hx
  obtain ⟨c, r, rfl, _, _⟩ := textS_split ht
  obtain rfl := List.mem_singleton.1 hx
  exact ⟨[], c, .here c r, by simp; rfl⟩
 | succ k ih =>
  intro way t x ht hk hx
  obtain ⟨c, r, rfl, _, f3⟩ := textS_split ht
  rcases List.mem_cons.1 hx with rfl | hx
  ·exact ⟨[], c, .here c r, by simp; rfl⟩
  ·obtain ⟨j, p, h1, h2⟩ := pathRs_mem _ _ hx
   have hp := f3 p (List.mem_of_getElem? h1)
   rw [Nat.zero_add] at h2
   simp only [List.length_cons] at hk
   obtain ⟨w, d, h3, rfl⟩ := ih _ p x hp.1 (by omega) h2
   exact ⟨(j : Int) :: w, d, .there c r j p w d h1 h3, by simp⟩
theorem sub_app {θ : Int → List Int} : ∀ (t u : List Int), subV θ (t ++ u) = subV θ t ++ subV θ u
 | [], u => rfl
 | c :: t, u => by
  simp only [List.cons_append, subV]
  rw [sub_app t u, List.append_assoc]
theorem parts_sub {l : List S59} {θ : Int → List Int} (hg : GoodA (arU l) θ) : ∀ (n : Nat) (r s : List Int), isN (arS l) n r → isN (arS l) n s → subV θ r = subV θ (s.map (shC 24)) → ∀ (i : Nat) (p q : List Int), (pcsU l r)[i]? = some p → (pcsU l s)[i]? = some q → subV θ p = subV θ (q.map (shC 24)) := by
 intro n
 induction n with
 | zero =>
  intro r s hr hs _ i p q hp _
  obtain rfl := isN_zero hr
  rw [pcsU_nil] at hp
  simp at hp
 | succ n ih =>
  intro r s hr hs he i p q hp hq
  obtain ⟨t, r', rfl, h1, h2⟩ := isN_split (m := 1) (n := n) (by rw [Nat.add_comm]; exact hr)
  obtain ⟨u, s', rfl, k1, k2⟩ := isN_split (m := 1) (n := n) (by rw [Nat.add_comm]; exact hs)
  rw [pcsU_cons (arU_isN h1)] at hp
  rw [pcsU_cons (arU_isN k1)] at hq
  rw [List.map_append, sub_app, sub_app] at he
  obtain ⟨e1, e2⟩ := isN_prefix (subA_isN (arU_var l) hg t 1 (arU_isN h1)) (subA_isN (arU_var l) hg _ 1 (far_isN k1)) he
  cases i with
  | zero =>
   obtain rfl := Option.some.inj hp
   obtain rfl := Option.some.inj hq
   exact e1
  | succ i => exact ih r' s' h2 k2 e2 i p q hp hq
theorem clash {l : List S59} {θ : Int → List Int} (hg : GoodA (arU l) θ) {w a : List Int} {c : Int} (ha : At12 l w c a) : ∀ (b : List Int) (d : Int), TextS l a → TextS l b → subV θ a = subV θ (b.map (shC 24)) → At12 l w d b → 0 ≤ c → 0 ≤ d → c = d := by
 have head : ∀ (c d : Int) (r s : List Int), 0 ≤ c → 0 ≤ d → subV θ (c :: r) = subV θ ((d :: s).map (shC 24)) → c = d ∧ subV θ r = subV θ (s.map (shC 24)) := by
  intro c d r s hc hd he
  simp only [List.map_cons, subV] at he
  rw [shC_pos hd, subC_pos θ hc, subC_pos θ hd] at he
  injection he with h1 h2
  exact ⟨h1, h2⟩
 induction ha with
 | here c r =>
  intro b d _ _ he hb hc hd
  cases hb with
  | here _ s => exact (head c d r s hc hd he).1
 | there c0 r i p w c hp h ih =>
  intro b d hta htb he hb hc hd
  cases hb with
  | there d0 s j q _ _ hq h' =>
   rename_i hij
   have pos : ∀ (c0 : Int) (r p : List Int) (i : Nat), TextS l (c0 :: r) → (pcsU l r)[i]? = some p → 0 ≤ c0 := by
    intro c0 r p i ht hp
    obtain ⟨c', r', e, _, _, h3, _⟩ := ht.cons
    injection e with e1 e2
    subst e1 e2
    refine Int.not_lt.1 (fun hneg => ?_)
    have : arT l c0 = 0 := if_pos hneg
    rw [this] at h3
    obtain rfl := isN_zero h3
    rw [pcsU_nil] at hp
    simp at hp
   obtain ⟨e0, er⟩ := head c0 d0 r s (pos c0 r p i hta hp) (pos d0 s q _ htb hq) he
   subst e0
   obtain ⟨c1, r1, e1, _, _, h3, h4⟩ := hta.cons
   injection e1 with e1 e2
   subst e1 e2
   obtain ⟨c2, r2, e1, _, _, k3, k4⟩ := htb.cons
   injection e1 with e1 e2
   subst e1 e2
   have hpt := (textS_parts hta.sig h3 h4).2.2 p (List.mem_of_getElem? hp)
   have hqt := (textS_parts htb.sig k3 k4).2.2 q (List.mem_of_getElem? hq)
   exact ih q d hpt.1 hqt.1 (parts_sub hg _ r s h3 k3 er i p q hp hq) h' hc hd
theorem endC_pos {c : Int} (h : 0 ≤ endC c) : endC c = c ∧ 0 ≤ c := by
 unfold endC at *
 split at h
 ·omega
 ·rename_i h1; rw [if_neg h1]; exact ⟨rfl, h⟩
theorem unite_all {l : List S59} {a b : List Int} (h : uniteV l a b = true) : ∃ θ, GoodA (arU l) θ ∧ subV θ a = subV θ (b.map (shC 24)) := by
 classical
 by_cases h1 : Row l 1 a ∧ Row l 1 b
 ·rw [unite_term h1.1 h1.2] at h
  exact of_decide_eq_true h
 ·by_cases h2 : rd a 0 = rd b 0 ∧ Atom l a ∧ Atom l b
  ·rw [unite_atom h2.2.1 h2.2.2 h2.1] at h
   obtain ⟨θ, hg, he⟩ := of_decide_eq_true h
   refine ⟨θ, hg, ?_⟩
   obtain ⟨p, r, rfl, hp, _⟩ := h2.2.1
   obtain ⟨q, s, rfl, hq, _⟩ := h2.2.2
   have e : p = q := h2.1
   subst e
   simp only [List.map_cons, subV]
   rw [shC_pos hp]
   simp only [List.drop_succ_cons, List.drop_zero] at he
   rw [he]
  ·rw [unite_no h1 h2] at h; cases h
section
variable {P Q : List (List Int)}
theorem rdL {P : List (List Int)} {i : Nat} (h : i < P.length) : rd_L3 P (i : Int) = P[i] := by
 unfold rd_L3
 rw [Int.toNat_natCast, List.getD_eq_getElem?_getD, List.getElem?_eq_getElem h]
 rfl
theorem apart_loop (hP : P.length ≤ 49) (hQ : Q.length ≤ 49) (fP : ∀ x ∈ P, ∃ (w : List Int) (c : Int), x = w ++ [c] ∧ w.length ≤ 100) (fQ : ∀ x ∈ Q, ∃ (w : List Int) (c : Int), x = w ++ [c] ∧ w.length ≤ 100)
  (hno : ∀ (w : List Int) (c d : Int), w ++ [c] ∈ P → w ++ [d] ∈ Q → 0 ≤ c → 0 ≤ d → c = d) {i : Nat} (hi : i < P.length) (next : Ev (fun k => quaerelaw12_PathApart.l0 k P Q ((i + 1 : Nat) : Int)) true) :
  ∀ (d j : Nat), Q.length - j = d → j ≤ Q.length → Ev (fun k => quaerelaw12_PathApart.l1 k P Q (i : Int) (j : Int)) true := by
 intro d
 induction d with
 | zero =>
  intro j hd hj
  refine Ev.step (fun k => rfl) (Ev.if_neg (by omega) ?_)
  rw [wrap_nat i (by omega)]
  exact next
 | succ d ih =>
  intro j hd hj
  have hlt : j < Q.length := by omega
  have hn := ih (j + 1) (by omega) (by omega)
  have mP : P[i] ∈ P := List.getElem_mem _
  have mQ : Q[j] ∈ Q := List.getElem_mem _
  obtain ⟨w, c, e1, l1⟩ := fP _ mP
  obtain ⟨w', c', e2, l2⟩ := fQ _ mQ
  rw [e1] at mP
  rw [e2] at mQ
  have w1 := (last_at w c).resolve_right (by omega)
  have w2 := (last_at w' c').resolve_right (by omega)
  have j4 : ∀ x, x = false → Ev (fun k => quaerelaw12_PathApart.j4 k P Q (i : Int) (j : Int) (w.length : Int) (w'.length : Int) x) true := by
   intro x hx
   refine Ev.step (fun k => rfl) (Ev.if_neg (by rw [hx]; decide) (Ev.if_pos (by omega) (Ev.if_pos (by omega) (Ev.if_pos (by omega) ?_))))
   rw [rdL hi, rdL hlt, e1, e2]
   refine Ev.if_pos (by simp only [List.length_append, List.length_singleton]; omega) (Ev.if_pos (by omega) (Ev.if_pos (by omega) (Ev.if_pos (by omega) (Ev.if_pos (by simp only [List.length_append, List.length_singleton]; omega) ?_))))
   rw [Int.toNat_natCast, Int.toNat_natCast, List.take_left, List.take_left]
   refine Ev.bind (sameInts_ev _ _ (by omega)) ?_
   rw [wrap_nat j (by omega)]
   by_cases hw : w = w'
   ·subst hw
    refine Ev.if_pos (by simp) (Ev.if_pos (by simp only [List.length_append, List.length_singleton]; omega) (Ev.if_pos (by simp only [List.length_append, List.length_singleton]; omega) ?_))
    rw [rd_last, rd_last]
    by_cases hc : c = c'
    ·exact Ev.if_pos hc hn
    ·refine Ev.if_neg hc ?_
     by_cases h0 : c ≥ 0
     ·refine Ev.if_pos h0 ?_
      by_cases h1 : c' ≥ 0
      ·exact absurd (hno w c c' mP mQ h0 h1) hc
      ·exact Ev.if_neg h1 hn
     ·exact Ev.if_neg h0 hn
   ·exact Ev.if_neg (by simp [hw]) hn
  refine Ev.step (fun k => rfl) (Ev.if_pos (by omega) (Ev.if_pos (by omega) (Ev.if_pos (by omega) (Ev.if_pos (by omega) ?_))))
  rw [rdL hi, rdL hlt, e1, e2, w1, w2]
  exact Ev.if_neg (by omega) (j4 _ (by rw [decide_eq_false_iff_not]; omega))
theorem apart_outer (hP : P.length ≤ 49) (hQ : Q.length ≤ 49) (fP : ∀ x ∈ P, ∃ (w : List Int) (c : Int), x = w ++ [c] ∧ w.length ≤ 100) (fQ : ∀ x ∈ Q, ∃ (w : List Int) (c : Int), x = w ++ [c] ∧ w.length ≤ 100)
  (hno : ∀ (w : List Int) (c d : Int), w ++ [c] ∈ P → w ++ [d] ∈ Q → 0 ≤ c → 0 ≤ d → c = d) : ∀ (d i : Nat), P.length - i = d → i ≤ P.length → Ev (fun k => quaerelaw12_PathApart.l0 k P Q (i : Int)) true := by
 intro d
 induction d with
 | zero =>
  intro i hd hi
  exact Ev.step (fun k => rfl) (Ev.if_neg (by omega) (Ev.some_ rfl))
 | succ d ih =>
  intro i hd hi
  exact Ev.step (fun k => rfl) (Ev.if_pos (by omega) (apart_loop hP hQ fP fQ hno (by omega) (ih (i + 1) (by omega) (by omega)) Q.length 0 rfl (Nat.zero_le _)))
end
theorem path_shape {l : List S59} {t : List Int} (ht : Text l t) : (pathV l t).length ≤ 49 ∧ ∀ x ∈ pathV l t, ∃ (w : List Int) (c : Int), x = w ++ [c] ∧ w.length ≤ 100 := by
 obtain ⟨W, a1, _, a3, _, hw⟩ := pathV_facts ht
 have := (text_len ht).2.1
 refine ⟨by rw [a3, zip_length a1]; exact this, fun x hx => ?_⟩
 rw [a3] at hx
 obtain ⟨i, hi, rfl⟩ := List.getElem_of_mem hx
 rw [List.length_zipWith] at hi
 refine ⟨W[i], endC t[i], by rw [List.getElem_zipWith]; rfl, hw _ (List.getElem_mem _)⟩
theorem quaerelaw12_PathApart.pure : quaerelaw12_PathApart.Pure := by
 classical
 intro l a b _ _ _
 refine Ev.get (r := true) ?_
 unfold quaerelaw12_PathApart.f
 refine Ev.bind awake12_ev (Ev.if_pos rfl (Ev.bind (findP_ev l [a] b 0 (by simp)) ?_))
 simp only [quaerelaw0_Num.f, Option.bind_some]
 have jt : ∀ (ks : List Int) (x : Bool), x = true → ks = [] → Ev (fun k => quaerelaw12_PathApart.j0 k l a b ks x) true := fun ks x hx hk =>
  Ev.step (fun k => rfl) (Ev.if_pos hx (Ev.some_ (by rw [hk]; rfl)))
 by_cases h : TextT l b ∧ ¬ badT l [a]
 ·have e : findPV l [a] b 0 = (idxV (hitV l b 0) 0 [a], 0) := if_pos ⟨by decide, by decide, h.1, h.2⟩
  rw [e]
  refine Ev.if_pos rfl ?_
  by_cases ha : a = []
  ·have hn : idxV (hitV l b 0) 0 [a] = [] := by
    have : hitV l b 0 a = false := if_pos ha
    rw [idxV_no (by rw [this]; decide)]
    rfl
   exact Ev.if_pos (by rw [ha]; rfl) (jt _ _ rfl hn)
  ·have hpos := List.length_pos_iff.2 ha
   refine Ev.if_neg (by omega) ?_
   have hta : TextT l a := Classical.byContradiction fun k => h.2 ⟨a, List.mem_singleton.2 rfl, ha, k⟩
   have hh : hitV l b 0 a = uniteV l b a := by
    unfold hitV fitsV
    rw [if_neg ha, if_pos rfl]
   by_cases hu : uniteV l b a = true
   ·have hy : idxV (hitV l b 0) 0 [a] = [0] := by
     rw [idxV_yes (by rw [hh]; exact hu)]
     rfl
    rw [hy]
    rw [unite_symm h.1 hta] at hu
    obtain ⟨θ, hg, he⟩ := unite_all hu
    have pa := pathsP_ev l a
    have pb := pathsP_ev l b
    rw [if_pos hta.2] at pa
    rw [if_pos h.1.2] at pb
    have sa := path_shape (textT_text hta)
    have sb := path_shape (textT_text h.1)
    have hno : ∀ (w : List Int) (c d : Int), w ++ [c] ∈ pathV l a → w ++ [d] ∈ pathV l b → 0 ≤ c → 0 ≤ d → c = d := by
     intro w c d hc hd h0 h1
     obtain ⟨w1, c1, g1, g2⟩ := path_mem a.length [] a _ (text_textS (textT_text hta)) (by omega) hc
     obtain ⟨w2, c2, g3, g4⟩ := path_mem b.length [] b _ (text_textS (textT_text h.1)) (by omega) hd
     rw [List.nil_append] at g2 g4
     obtain ⟨q1, q2⟩ := List.append_inj' g2 rfl
     obtain ⟨q3, q4⟩ := List.append_inj' g4 rfl
     injection q2 with q2 _
     injection q4 with q4 _
     subst q2 q4
     obtain ⟨z1, z2⟩ := endC_pos h0
     obtain ⟨z3, z4⟩ := endC_pos h1
     rw [z1, z3]
     rw [← q1] at g1
     rw [← q3] at g3
     exact clash hg g1 b c2 (text_textS (textT_text hta)) (text_textS (textT_text h.1)) he g3 z2 z4
    have j1 : ∀ x, x = false → Ev (fun k => quaerelaw12_PathApart.j1 k (pathV l a) (pathV l b) x) true := fun x hx =>
     Ev.step (fun k => rfl) (Ev.if_neg (by rw [hx]; decide) (apart_outer sa.1 sb.1 sa.2 sb.2 hno (pathV l a).length 0 rfl (Nat.zero_le _)))
    have j0 : ∀ x, x = false → Ev (fun k => quaerelaw12_PathApart.j0 k l a b [0] x) true := fun x hx => by
     refine Ev.step (fun k => rfl) (Ev.if_neg (by rw [hx]; decide) (Ev.bind pa (Ev.bind pb ?_)))
     simp only [quaerelaw0_Num.f, Option.bind_some]
     exact Ev.if_pos trivial (j1 _ rfl)
    exact j0 _ rfl
   ·have hn : idxV (hitV l b 0) 0 [a] = [] := by
     rw [idxV_no (by rw [hh]; exact hu)]
     rfl
    rw [hn]
    exact jt _ _ rfl rfl
 ·have e : findPV l [a] b 0 = ([], 1200) := if_neg (fun k => h ⟨k.2.2.1, k.2.2.2⟩)
  rw [e]
  exact Ev.if_neg (by decide) (jt _ _ rfl rfl)
end Go.Proofs.YteffiodbflmfkaaDoor.PP
