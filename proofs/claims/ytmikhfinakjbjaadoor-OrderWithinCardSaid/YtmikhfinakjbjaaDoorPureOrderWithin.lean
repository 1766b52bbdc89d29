/- OrderWithin, plainly. -/
import Derived.Test.YtmikhfinakjbjaaDoorWantOrderWithin
import Derived.Test.YtmikhfinakjbjaaDoorKbos
import Derived.Test.YtmikhfinakjbjaaDoorAwake6
import Derived.Test.YtmikhfinakjbjaaDoorPOx0
import Derived.Test.YtmikhfinakjbjaaDoorPOx4
import Derived.Test.YtmikhfinakjbjaaDoorPOx13
import Derived.Test.YtmikhfinakjbjaaDoorPOx19
namespace Go.Proofs.YtmikhfinakjbjaaDoor.PO
open Go Go.RowKit Go.Proofs.YtmikhfinakjbjaaDoorW.PrintWords Go.Proofs.YtmikhfinakjbjaaDoorW.PrintLast Go.Proofs.YtmikhfinakjbjaaDoor
set_option linter.unusedVariables false
set_option linter.unusedSimpArgs false
theorem cov_part {a p s : List Int} : Cov (p ++ (a ++ s)) a := by
  intro v _
  simp only [List.count_append]
  omega
theorem sum_pos {l : List S45} (hs : SignOk l) {r : List Int} (hr : CodesOk l r) : 0 ≤ sumV l r := by
  have := (sumV_bd hs (fun c hc => (hr c hc).2)).1
  omega
/-- A text is more than a part of it. -/
theorem more_part {l : List S45} (hs : SignOk l) {a p s : List Int} (h : CodesOk l (p ++ (a ++ s))) (hne : 0 < p.length) : More l (p ++ (a ++ s)) a := by
  refine .heavy cov_part ?_
  have h1 : ∀ c ∈ p, c < l.length := fun c hc => (h c (by simp [hc])).2
  have h2 : ∀ c ∈ s, c < l.length := fun c hc => (h c (by simp [hc])).2
  have e1 := (sumV_bd hs h1).1
  have e2 := (sumV_bd hs h2).1
  rw [sumV_append, sumV_append]
  omega
theorem cov_put {a b : List Int} (c : Int) (p : List Int) : Cov (c :: (p ++ a)) (c :: (p ++ b)) ↔ Cov a b := by
  constructor
  · intro h v hv
    have := h v hv
    simp only [List.count_cons, List.count_append] at this
    omega
  · intro h v hv
    have := h v hv
    simp only [List.count_cons, List.count_append]
    omega
/-- Put into a symbol, terms are as they are by themselves. -/
theorem more_put {l : List S45} {n : Nat} {c : Int} {p a b : List Int} (hp : isN (arS l) n p) (ha : isN (arS l) 1 a) (hb : isN (arS l) 1 b) : More l (c :: (p ++ a)) (c :: (p ++ b)) ↔ More l a b := by
  have es : ∀ x, sumV l (c :: (p ++ x)) = wtV l c + (sumV l p + sumV l x) := fun x => by simp only [sumV, sumV_append]
  constructor
  · intro h
    have hcov := (cov_put c p).1 h.cov
    rcases h.inv.2 with k | ⟨hw, ⟨c', d', r', s', h1, h2, h3⟩ | ⟨c', m, q, x, u, y, v, h1, h2, hq, hx, hy, hne, hm⟩⟩
    · rw [es, es] at k
      exact .heavy hcov (by omega)
    · injection h1 with h1 _
      injection h2 with h2 _
      omega
    · injection h1 with _ h1
      injection h2 with _ h2
      have hab : a ≠ b := by
        rintro rfl
        rw [h1] at h2
        exact hne (isN_prefix hx hy (List.append_cancel_left h2)).1
      obtain ⟨_, _, rfl, rfl, _, _⟩ := split_same (u := []) (v := []) hp ha hb hab hq hx hy hne (by simpa using h1) (by simpa using h2)
      exact hm
  · intro h
    have hcov := (cov_put c p).2 h.cov
    have hsum := h.sum
    by_cases hw : sumV l b < sumV l a
    · exact .heavy hcov (by rw [es, es]; omega)
    · have := More.args (l := l) (c := c) (n := n) (p := p) (x := a) (u := []) (y := b) (v := []) (by simpa using hcov) (by simp only [List.append_nil]; rw [es, es]; omega) hp ha hb h.ne h
      simpa using this
theorem whichV_put {l : List S45} {n : Nat} {c : Int} {p a b : List Int} (hp : isN (arS l) n p) (ha : isN (arS l) 1 a) (hb : isN (arS l) 1 b) : whichV l (c :: (p ++ a)) (c :: (p ++ b)) = whichV l a b := by
  unfold whichV
  by_cases h : a = b
  · rw [if_pos h, if_pos (by rw [h])]
  · rw [if_neg h, if_neg (fun e => h (by injection e with _ e; exact List.append_cancel_left e))]
    by_cases h1 : More l a b
    · rw [if_pos h1, if_pos ((more_put hp ha hb).2 h1)]
    · rw [if_neg h1, if_neg (fun e => h1 ((more_put hp ha hb).1 e))]
      by_cases h2 : More l b a
      · rw [if_pos h2, if_pos ((more_put hp hb ha).2 h2)]
      · rw [if_neg h2, if_neg (fun e => h2 ((more_put hp hb ha).1 e))]
def wordsV : List S45 := [(⟨(⟨#[61]⟩ : ByteArray), 0, 2, 1⟩ : S45), (⟨(⟨#[97]⟩ : ByteArray), 1, 0, 1⟩ : S45), (⟨(⟨#[98]⟩ : ByteArray), 1, 0, 2⟩ : S45), (⟨(⟨#[102]⟩ : ByteArray), 1, 1, 1⟩ : S45), (⟨(⟨#[103]⟩ : ByteArray), 1, 2, 3⟩ : S45), (⟨(⟨#[112]⟩ : ByteArray), 0, 1, 1⟩ : S45), (⟨(⟨#[114]⟩ : ByteArray), 0, 2, 2⟩ : S45)]
theorem words_f : quaerelaw6_words.f = some wordsV := rfl
theorem within_jt (a b c : List Int) (x : Int) : Ev (fun k => quaerelaw6_OrderWithin.j0 k a b c x true) true :=
  Ev.step (f := fun _ => some true) (fun k => by simp only [quaerelaw6_OrderWithin.j0]; rw [if_pos trivial]) (Ev.now _)
/-- A term of these words: its first code is no predicate. -/
theorem words_term {a : List Int} (h : Text wordsV a) (h1 : Row wordsV 1 a ∨ Atom wordsV a) (h0 : rd a 0 ≠ 0) (h5 : rd a 0 < 5) : Row wordsV 1 a := by
  rcases h1 with h1 | ⟨p, r, rfl, p0, p1, p2, _⟩
  · exact h1
  · exfalso
    have e : rd (p :: r) 0 = p := rfl
    rw [e] at h0 h5
    obtain ⟨j, rfl⟩ := Int.eq_ofNat_of_zero_le p0
    simp only [Int.toNat_natCast] at p2
    match j, h0, h5, p2 with
    | 0, h0, _, _ => exact h0 rfl
    | 1, _, _, p2 => exact absurd p2 (by decide)
    | 2, _, _, p2 => exact absurd p2 (by decide)
    | 3, _, _, p2 => exact absurd p2 (by decide)
    | 4, _, _, p2 => exact absurd p2 (by decide)
    | j + 5, _, h5, _ => omega
theorem g_term {c a : List Int} (hc : Row wordsV 1 c) (ha : Row wordsV 1 a) (hl : a.length + c.length < 48) : Row wordsV 1 (4 :: (c ++ a)) := by
  refine ⟨hc.1, by simp only [List.length_cons, List.length_append]; omega, ?_⟩
  have h := isN_append hc.2.2 ha.2.2
  exact isN_cons.2 ⟨2, rfl, h⟩
theorem within_end (a b c : List Int) (ha : Row wordsV 1 a) (hb : Row wordsV 1 b) (hc : Row wordsV 1 c) (h1 : a.length + c.length < 48) (h2 : b.length + c.length < 48) :
    Ev (fun k => quaerelaw6_OrderWithin.j0 k a b c (whichV wordsV a b) false) true := by
  classical
  have ga := g_term hc ha h1
  have gb := g_term hc hb h2
  have hs := hc.1
  have ca := codes_row ga.2.2
  refine Ev.step (f := fun k => (order_Compare.f k wordsV (4 :: (c ++ a)) (4 :: (c ++ b))).bind fun t => ((order_Compare.f k wordsV (4 :: (c ++ a)) a).bind fun u => ((order_Compare.f k wordsV (4 :: (c ++ a)) c).bind fun v => if t.2 = 0 then (if t.1 = whichV wordsV a b then (if u.2 = 0 then (if u.1 = 2 then (if v.2 = 0 then some (v.1 == 2) else some false) else some false) else some false) else some false) else some false))) (fun k => ?_) (Ev.bind (compare_ev _ _ _) (Ev.bind (compare_ev _ _ _) (Ev.bind (compare_ev _ _ _) ?_)))
  · simp only [quaerelaw6_OrderWithin.j0, quaerelaw0_Num.f, words_f, Option.bind_some]
    rw [if_neg (by decide), if_pos (by simp only [List.length_cons, List.length_nil]; omega), if_pos (by simp only [List.length_append, List.length_cons, List.length_nil]; omega), if_pos (by simp only [List.length_append, List.length_cons, List.length_nil]; omega), if_pos (by simp only [List.length_append, List.length_cons, List.length_nil]; omega)]
    rfl
  · unfold CompareV
    rw [if_pos (show Both wordsV (4 :: (c ++ a)) (4 :: (c ++ b)) from .inl ⟨ga, gb⟩), if_pos (show Both wordsV (4 :: (c ++ a)) a from .inl ⟨ga, ha⟩), if_pos (show Both wordsV (4 :: (c ++ a)) c from .inl ⟨ga, hc⟩)]
    refine Ev.if_pos rfl (Ev.if_pos (whichV_put hc.2.2 ha.2.2 hb.2.2) (Ev.if_pos rfl (Ev.if_pos ?_ (Ev.if_pos rfl (Ev.some_ ?_)))))
    · exact whichV_of_more (by have := more_part hs (a := a) (p := 4 :: c) (s := []) (by simpa using ca) (by simp); simpa using this)
    · rw [show whichV wordsV (4 :: (c ++ a)) c = 2 from whichV_of_more (by have := more_part hs (a := c) (p := [4]) (s := a) (by simpa using ca) (by simp); simpa using this)]
      rfl
theorem quaerelaw6_OrderWithin.pure : quaerelaw6_OrderWithin.Pure := by
  classical
  intro a b c wa wb wc
  have la := wa.1
  have lb := wb.1
  have lc := wc.1
  refine Ev.get (r := true) ?_
  unfold quaerelaw6_OrderWithin.f
  simp only [quaerelaw0_Num.f, words_f, Option.bind_some]
  refine Ev.bind awake_ev (Ev.if_pos rfl (Ev.bind (compare_ev wordsV a b) (Ev.bind (compare_ev wordsV c c) ?_)))
  unfold CompareV
  by_cases h : Both wordsV a b
  · rw [if_pos h]
    refine Ev.if_pos rfl ?_
    by_cases h2 : Both wordsV c c
    · rw [if_pos h2]
      obtain ⟨ta, tb⟩ := h.texts
      obtain ⟨tc, _⟩ := h2.texts
      have l1 := text_len ta
      have l2 := text_len tc
      have l3 := text_len tb
      simp only
      refine Ev.if_pos trivial (Ev.if_neg (by omega) (Ev.if_neg (by omega) (Ev.if_pos (by omega) ?_)))
      by_cases a0 : rd a 0 = 0
      · exact Ev.if_pos a0 (within_jt _ _ _ _)
      · refine Ev.if_neg a0 ?_
        by_cases a5 : rd a 0 ≥ 5
        · exact Ev.if_pos a5 (within_jt _ _ _ _)
        · refine Ev.if_neg a5 (Ev.if_pos (by omega) ?_)
          by_cases c0 : rd c 0 = 0
          · exact Ev.if_pos c0 (within_jt _ _ _ _)
          · refine Ev.if_neg c0 ?_
            by_cases c5 : rd c 0 ≥ 5
            · exact Ev.if_pos c5 (within_jt _ _ _ _)
            · refine Ev.if_neg c5 ?_
              rw [wrap_id ((a.length : Int) + (c.length : Int)) (by omega) (by omega), wrap_id ((b.length : Int) + (c.length : Int)) (by omega) (by omega)]
              by_cases hl : (a.length : Int) + (c.length : Int) ≥ 48
              · exact Ev.if_pos hl (within_jt _ _ _ _)
              · refine Ev.if_neg hl ?_
                by_cases hl2 : (b.length : Int) + (c.length : Int) ≥ 48
                · rw [decide_eq_true hl2]
                  exact within_jt _ _ _ _
                · rw [decide_eq_false hl2]
                  have ra : Row wordsV 1 a := words_term ta (h.imp (·.1) (·.1)) a0 (by omega)
                  have rc : Row wordsV 1 c := words_term tc (h2.imp (·.1) (·.1)) c0 (by omega)
                  have rb : Row wordsV 1 b := by
                    rcases h with ⟨_, h⟩ | ⟨⟨p, r, rfl, p0, p1, p2, _⟩, _⟩
                    · exact h
                    · exfalso
                      obtain ⟨m, hm⟩ := isN_mem ra.2.2 p (List.mem_cons_self ..)
                      exact (arS_pos p0 hm).2.1 p2
                  exact within_end a b c ra rb rc (by omega) (by omega)
    · rw [if_neg h2]
      exact Ev.if_neg (by decide) (within_jt _ _ _ _)
  · rw [if_neg h]
    exact Ev.if_neg (by decide) (within_jt _ _ _ _)
end Go.Proofs.YtmikhfinakjbjaaDoor.PO
