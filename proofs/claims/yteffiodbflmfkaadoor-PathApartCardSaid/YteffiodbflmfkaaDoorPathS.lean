/- The paths of a text, plainly. -/
import Derived.Test.YteffiodbflmfkaaDoorPathR
import Derived.Test.YteffiodbflmfkaaDoorUniLs
import Derived.Test.YteffiodbflmfkaaDoorPPx0
import Derived.Test.YteffiodbflmfkaaDoorPPx4
import Derived.Test.YteffiodbflmfkaaDoorPPx5
namespace Go.Proofs.YteffiodbflmfkaaDoor.PP
open Go Go.RowKit Go.Proofs.YteffiodbflmfkaaDoorW.PrintWords Go.Proofs.YteffiodbflmfkaaDoorW.PrintLast Go.Proofs.YteffiodbflmfkaaDoor
set_option linter.unusedVariables false
set_option linter.unusedSimpArgs false
/-- A code, and a row of its arguments. -/
structure TextS (l : List S59) (t : List Int) : Prop where
 sig : SignOk l
 cons : ∃ c r, t = c :: r ∧ -24 ≤ c ∧ c < l.length ∧ isN (arS l) (arT l c) r ∧ r.length ≤ 48
theorem text_textS {l : List S59} {t : List Int} (h : Text l t) : TextS l t := by
 obtain ⟨hs, c, r, e, h1, h2, h3, h4⟩ := h
 exact ⟨hs, c, r, e, h2, h3, h4, h1⟩
theorem textS_B {l : List S59} {t : List Int} (h : TextS l t) : TextB l t := by
 obtain ⟨c, r, e, _, _, h3, h4⟩ := h.cons
 subst e
 exact ⟨by simp, ⟨_, arU_isN h3⟩, h4⟩
theorem pcsU_parts {l : List S59} {n : Nat} {r : List Int} (h : isN (arS l) n r) : pcsU l r = pcs l r := by
 induction n generalizing r with
 | zero =>
  obtain rfl := isN_zero h
  rfl
 | succ n ih =>
  obtain ⟨t, s, e, h1, h2⟩ := isN_split (m := 1) (n := n) (by rw [Nat.add_comm]; exact h)
  subst e
  rw [pcsU_cons (arU_isN h1), pcs_cons h1, ih h2]
theorem textS_parts {l : List S59} {c : Int} {r : List Int} (hs : SignOk l) (h3 : isN (arS l) (arT l c) r) (h4 : r.length ≤ 48) : (pcsU l r).flatten = r ∧ (pcsU l r).length = arT l c ∧ ∀ p ∈ pcsU l r, TextS l p ∧ p.length ≤ r.length := by
 obtain ⟨f1, f2, _⟩ := pcsU_facts (arU_isN h3) h4
 refine ⟨f1, f2, fun p hp => ?_⟩
 have hl := mem_flatten_len hp
 rw [f1] at hl
 rw [pcsU_parts h3] at hp
 have h5 := ((pcs_mem r.length r (Nat.le_refl _)).2 p hp).1
 exact ⟨text_textS (text_one hs (by omega) h5), hl⟩
theorem arity_f {l : List S59} (hs : SignOk l) {c : Int} (h0 : -24 ≤ c) (h1 : c < l.length) : path_arity.f l c = some ((arT l c : Nat) : Int) := by
 unfold path_arity.f arT
 by_cases hc : c < 0
 ·rw [if_pos hc, if_pos hc]; rfl
 ·rw [if_neg hc, if_pos (by omega), if_pos h1, if_neg hc]
  have := sign_arity hs c.toNat (by omega)
  have e : rd_T59 l c = l.getD c.toNat z59 := rfl
  rw [e]
  congr 1
  omega
theorem clone_f {way : List Int} (h : way.length ≤ 100) : slices_Clone_int_int.f way = some way := by
 unfold slices_Clone_int_int.f
 rw [if_pos (by omega)]
theorem set_last (l : List Int) (x y : Int) : (l ++ [x]).set l.length y = l ++ [y] := by simp
theorem take_last (l : List Int) (x : Int) : (l ++ [x]).take l.length = l := by simp
theorem rd_last (l : List Int) (x : Int) : rd (l ++ [x]) (l.length : Int) = x := by
 rw [rd_nat _ _ (by simp)]
 simp
/-- One round up: behind an argument. -/
theorem up_zero {l : List S59} {t : List Int} {out : List (List Int)} {way left : List Int} {i : Int} {at_ : Int} {R : List (List Int)} (hw : way.length = left.length) (hl : left.length ≤ 100)
  (h : Ev (fun f => path_paths.l1 f l t out way left at_) R) : Ev (fun f => path_paths.l1 f l t out (way ++ [i]) (left ++ [0]) at_) R := by
 have e : wrap64 (((left ++ [(0 : Int)]).length : Int) - 1) = (left.length : Int) := by
  rw [List.length_append, List.length_singleton]
  unfold wrap64
  omega
 refine Ev.step (fun k => rfl) (Ev.if_neg (by simp only [List.length_append, List.length_singleton]; omega) ?_)
 rw [e]
 refine Ev.if_pos (by omega) (Ev.if_pos (by simp only [List.length_append, List.length_singleton]; omega) ?_)
 rw [rd_last]
 refine Ev.if_pos rfl (Ev.if_pos (by simp only [List.length_append, List.length_singleton]; omega) (Ev.if_pos (by simp only [List.length_append, List.length_singleton]; omega) ?_))
 rw [Int.toNat_natCast, take_last, ← hw, take_last]
 exact h
theorem up_more {l : List S59} {t : List Int} {out : List (List Int)} {way left : List Int} {i m : Nat} {at_ : Int} {R : List (List Int)} (hw : way.length = left.length) (hl : left.length ≤ 100) (hi : i ≤ 1000) (hm : m ≤ 1000)
  (h : Ev (fun f => path_paths.l0 f l t out (way ++ [((i + 1 : Nat) : Int)]) (left ++ [(m : Int)]) at_) R) : Ev (fun f => path_paths.l1 f l t out (way ++ [(i : Int)]) (left ++ [((m + 1 : Nat) : Int)]) at_) R := by
 have e : wrap64 (((left ++ [((m + 1 : Nat) : Int)]).length : Int) - 1) = (left.length : Int) := by
  rw [List.length_append, List.length_singleton]
  unfold wrap64
  omega
 have e2 : wrap64 (((m + 1 : Nat) : Int) - 1) = (m : Int) := by unfold wrap64; omega
 refine Ev.step (fun k => rfl) (Ev.if_neg (by simp only [List.length_append, List.length_singleton]; omega) ?_)
 rw [e]
 refine Ev.if_pos (by omega) (Ev.if_pos (by simp only [List.length_append, List.length_singleton]; omega) ?_)
 rw [rd_last]
 refine Ev.if_neg (by omega) (Ev.if_pos (by simp only [List.length_append, List.length_singleton]; omega) ?_)
 rw [Int.toNat_natCast, set_last, e2, ← hw, rd_last, set_last, wrap_nat i (by omega)]
 exact h
theorem down_one {l : List S59} {t : List Int} {out : List (List Int)} {way left : List Int} {p : Nat} {R : List (List Int)} (hs : SignOk l) (hp : p < t.length) (ht : t.length ≤ 100) (h0 : -24 ≤ rd t (p : Int)) (h1 : rd t (p : Int) < l.length)
  (hw : way.length = left.length) (hl : left.length ≤ 100) (ho : out.length ≤ 100) (ha : arT l (rd t (p : Int)) ≤ 1000)
  (hz : arT l (rd t (p : Int)) = 0 → Ev (fun f => path_paths.l1 f l t (out ++ [way ++ [endC (rd t (p : Int))]]) way left ((p + 1 : Nat) : Int)) R)
  (hn : ∀ m, arT l (rd t (p : Int)) = m + 1 → Ev (fun f => path_paths.l0 f l t (out ++ [way ++ [endC (rd t (p : Int))]]) (way ++ [0]) (left ++ [(m : Int)]) ((p + 1 : Nat) : Int)) R) :
  Ev (fun f => path_paths.l0 f l t out way left (p : Int)) R := by
 refine Ev.step (fun k => rfl) (Ev.if_neg (by omega) ?_)
 rw [clone_f (by omega)]
 simp only [Option.bind_some]
 refine Ev.if_pos (by omega) (Ev.if_pos (by omega) (Ev.if_pos (by simp only [List.length_singleton]; omega) (Ev.if_pos (by simp only [List.length_singleton]; omega) ?_)))
 rw [arity_f hs h0 h1]
 simp only [Option.bind_some]
 rw [wrap_nat p (by omega)]
 cases e : arT l (rd t (p : Int)) with
 | zero => exact Ev.if_neg (by simp) (hz e)
 | succ m =>
  rw [e] at ha
  have e2 : wrap64 (((m + 1 : Nat) : Int) - 1) = (m : Int) := by unfold wrap64; omega
  refine Ev.if_pos (by omega) (Ev.if_pos (by simp only [List.length_singleton]; omega) (Ev.if_pos (by simp only [List.length_singleton]; omega) ?_))
  rw [e2]
  exact hn m e
theorem rd_at {t s r : List Int} {c : Int} {p : Nat} (h : t.drop p = c :: s ++ r) : p < t.length ∧ rd t (p : Int) = c ∧ t.drop (p + 1) = s ++ r := by
 have hp : p < t.length := by
  have := congrArg List.length h
  rw [List.length_drop] at this
  simp at this
  omega
 rw [drop_cons t p hp] at h
 injection h with h1 h2
 exact ⟨hp, h1, h2⟩
theorem down_text {l : List S59} (hs : SignOk l) (t : List Int) (ht : t.length ≤ 49) {R : List (List Int)} : ∀ (k : Nat) (s rest : List Int) (p : Nat) (out : List (List Int)) (way left : List Int),
  s.length ≤ k + 1 → TextS l s → t.drop p = s ++ rest → way.length = left.length → way.length + s.length ≤ 60 → out.length + s.length ≤ 60 →
  Ev (fun f => path_paths.l1 f l t (out ++ pathR l k way s) way left ((p + s.length : Nat) : Int)) R → Ev (fun f => path_paths.l0 f l t out way left (p : Int)) R := by
 intro k
 induction k with
 | zero =>
  intro s rest p out way left hk hS hd hw h1 h2 h
  obtain ⟨c, r, e, c0, c1, h3, h4⟩ := hS.cons
  subst e
  obtain rfl : r = [] := by simp only [List.length_cons] at hk; exact List.length_eq_zero_iff.1 (by omega)
  obtain ⟨hp, hc, _⟩ := rd_at hd
  have ha : arT l c = 0 := by
   obtain h := isN_uniq h3 isN_nil
   exact h
  refine down_one hs hp (by omega) (by rw [hc]; exact c0) (by rw [hc]; exact c1) hw (by simp only [List.length_cons, List.length_nil] at h1; omega) (by simp only [List.length_cons, List.length_nil] at h2; omega) (by rw [hc, ha]; omega) (fun _ => ?_) (fun m hm => by rw [hc, ha] at hm; omega)
  rw [hc]
  exact h
 | succ k ih =>
  intro s rest p out way left hk hS hd hw h1 h2 h
  obtain ⟨c, r, e, c0, c1, h3, h4⟩ := hS.cons
  subst e
  obtain ⟨hp, hc, hdr⟩ := rd_at hd
  obtain ⟨f1, f2, f3⟩ := textS_parts hs h3 h4
  simp only [List.length_cons] at hk h1 h2
  have row : ∀ (ps : List (List Int)) (q : List Int) (i p' : Nat) (out' : List (List Int)) (rest' : List Int), (∀ x ∈ q :: ps, TextS l x ∧ x.length ≤ r.length) → t.drop p' = (q :: ps).flatten ++ rest' → out'.length + (q :: ps).flatten.length ≤ 60 → i + (q :: ps).length ≤ 100 →
    Ev (fun f => path_paths.l1 f l t (out' ++ pathRs (pathR l k) way i (q :: ps)) way left ((p' + (q :: ps).flatten.length : Nat) : Int)) R → Ev (fun f => path_paths.l0 f l t out' (way ++ [(i : Int)]) (left ++ [(ps.length : Int)]) (p' : Int)) R := by
   intro ps
   induction ps with
   | nil =>
    intro q i p' out' rest' hx hd' ho' hi' h'
    have hq := hx q (List.mem_cons_self ..)
    simp only [List.flatten_cons, List.flatten_nil, List.append_nil] at hd' ho' h'
    refine ih q rest' p' out' (way ++ [(i : Int)]) (left ++ [0]) (by omega) hq.1 hd' (by simp only [List.length_append, List.length_singleton]; omega) (by rw [List.length_append, List.length_singleton]; omega) ho' ?_
    refine up_zero hw (by omega) ?_
    simp only [pathRs, List.append_nil] at h'
    exact h'
   | cons q2 ps ih2 =>
    intro q i p' out' rest' hx hd' ho' hi' h'
    have hq := hx q (List.mem_cons_self ..)
    have hl0 := pathR_len k (way ++ [(i : Int)]) q (by omega) (textS_B hq.1)
    rw [List.flatten_cons, List.length_append] at ho'
    rw [List.flatten_cons] at hd' h'
    refine ih q ((q2 :: ps).flatten ++ rest') p' out' (way ++ [(i : Int)]) (left ++ [((q2 :: ps).length : Int)]) (by omega) hq.1 (by rw [hd', List.append_assoc]) (by simp only [List.length_append, List.length_singleton]; omega) (by rw [List.length_append, List.length_singleton]; omega) (by omega) ?_
    simp only [List.length_cons] at hi'
    refine up_more (m := ps.length) hw (by omega) (by omega) (by omega) ?_
    refine ih2 q2 (i + 1) (p' + q.length) (out' ++ pathR l k (way ++ [(i : Int)]) q) rest' (fun x hx' => hx x (List.mem_cons_of_mem _ hx')) ?_ (by rw [List.length_append]; omega) (by simp only [List.length_cons]; omega) ?_
    ·rw [← List.drop_drop, hd', List.append_assoc]
     simp
    ·rw [List.length_append] at h'
     rw [Nat.add_assoc, List.append_assoc]
     exact h'
  have ha : arT l c ≤ 48 := by
   have := flat_le (pcsU l r) (fun p hp => (textS_B (f3 p hp).1).ne)
   rw [f1, f2] at this
   omega
  refine down_one hs hp (by omega) (by rw [hc]; exact c0) (by rw [hc]; exact c1) hw (by omega) (by omega) (by rw [hc]; omega) (fun hz => ?_) (fun m hm => ?_)
  ·rw [hc] at hz ⊢
   have hps : pcsU l r = [] := List.length_eq_zero_iff.1 (by omega)
   have hr : r = [] := by rw [← f1, hps]; rfl
   subst hr
   have e : pathR l (k + 1) way [c] = [way ++ [endC c]] := rfl
   rw [e] at h
   exact h
  ·rw [hc] at hm ⊢
   cases hps : pcsU l r with
   | nil => rw [hps] at f2; simp at f2; omega
   | cons q ps =>
    have hlen : ps.length = m := by rw [hps, List.length_cons] at f2; omega
    subst hlen
    rw [hps] at f1 f3
    refine row ps q 0 (p + 1) (out ++ [way ++ [endC c]]) rest f3 (by rw [f1]; exact hdr) (by rw [f1, List.length_append, List.length_singleton]; omega) (by have := f2; rw [hps] at this; omega) ?_
    rw [f1]
    have e : pathR l (k + 1) way (c :: r) = (way ++ [endC c]) :: pathRs (pathR l k) way 0 (q :: ps) := by rw [← hps]; rfl
    rw [e] at h
    rw [List.append_assoc]
    have e2 : p + 1 + r.length = p + (c :: r).length := by simp only [List.length_cons]; omega
    rw [e2]
    exact h
noncomputable def pathV (l : List S59) (t : List Int) : List (List Int) := pathR l t.length [] t
theorem paths_ev {l : List S59} {t : List Int} (ht : Text l t) : Ev (fun k => path_paths.f k l t) (pathV l t) := by
 have hS := text_textS ht
 have hl := (text_len ht).2.1
 unfold path_paths.f
 refine down_text hS.sig t hl t.length t [] 0 [] [] [] (by omega) hS (by simp) rfl (by simp only [List.length_nil]; omega) (by simp only [List.length_nil]; omega) ?_
 refine Ev.step (fun k => rfl) (Ev.if_pos rfl (Ev.step (fun k => rfl) (Ev.if_pos (by simp) (Ev.some_ (by simp [pathV])))))
end Go.Proofs.YteffiodbflmfkaaDoor.PP
