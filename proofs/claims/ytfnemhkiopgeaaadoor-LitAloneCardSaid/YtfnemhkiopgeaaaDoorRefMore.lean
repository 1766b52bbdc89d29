/- The reference's order: what its printed functions answer. -/
import Derived.Test.YtfnemhkiopgeaaaDoorRefTerms
import Derived.Test.YtfnemhkiopgeaaaDoorKbos
import Derived.Test.YtfnemhkiopgeaaaDoorPKx0
import Derived.Test.YtfnemhkiopgeaaaDoorPKx8
import Derived.Test.YtfnemhkiopgeaaaDoorPKx9
import Derived.Test.YtfnemhkiopgeaaaDoorPKx10
import Derived.Test.YtfnemhkiopgeaaaDoorPKx11
namespace Go.Proofs.YtfnemhkiopgeaaaDoor.PK
open Go Go.RowKit Go.Proofs.YtfnemhkiopgeaaaDoorW.PrintWords Go.Proofs.YtfnemhkiopgeaaaDoorW.PrintLast Go.Proofs.YtfnemhkiopgeaaaDoor
set_option linter.unusedVariables false
set_option linter.unusedSimpArgs false
theorem heavy_loop {l : List S58} (hs : SignOk l) (r : List Int) (hr : r.length ≤ 60) (hc : ∀ c ∈ r, c < l.length) : ∀ (d i : Nat) (n : Int), r.length - i = d → i ≤ r.length → 0 ≤ n → n ≤ 20 * i → Ev (fun k => quaereref1_Heavy.l0 k l r n (i : Int)) (n + sumV l (r.drop i)) := by
  intro d
  induction d with
  | zero =>
    intro i n hd hi h0 h1
    refine Ev.step (f := fun _ => some n) (fun k => ?_) (Ev.some_ ?_)
    · simp only [quaereref1_Heavy.l0]
      rw [if_neg (by omega)]
    · rw [List.drop_eq_nil_of_le (by omega)]
      simp [sumV]
  | succ d ih =>
    intro i n hd hi h0 h1
    have hlt : i < r.length := by omega
    have hcl : rd r (i : Int) < l.length := hc _ (by rw [rd_nat r i hlt]; exact List.getElem_mem _)
    have hbd := wtV_bd hs hcl
    have hv : n + sumV l (r.drop i) = (n + wtV l (rd r (i : Int))) + sumV l (r.drop (i + 1)) := by rw [drop_cons r i hlt]; simp only [sumV]; omega
    rw [hv]
    refine Ev.step (f := fun k => quaereref1_Heavy.l0 k l r (n + wtV l (rd r (i : Int))) ((i + 1 : Nat) : Int)) (fun k => ?_) (ih (i + 1) _ (by omega) (by omega) (by omega) (by omega))
    simp only [quaereref1_Heavy.l0]
    rw [if_pos (by omega), if_pos (by omega)]
    unfold wtV at hbd ⊢
    by_cases hneg : rd r (i : Int) < 0
    · rw [if_pos hneg] at hbd ⊢
      rw [if_pos hneg, wrap_nat i (by omega), wrap_id _ (by omega) (by omega)]
    · rw [if_neg hneg] at hbd ⊢
      have e : rd_T58 l (rd r (i : Int)) = l.getD (rd r (i : Int)).toNat z58 := rfl
      rw [if_neg hneg, if_pos (by omega), if_pos hcl, wrap_nat i (by omega), e, wrap_id _ (by omega) (by omega)]
theorem heavy_ev {l : List S58} (hs : SignOk l) (r : List Int) (hr : r.length ≤ 60) (hc : ∀ c ∈ r, c < l.length) : Ev (fun k => quaereref1_Heavy.f k l r) (sumV l r) := by
  unfold quaereref1_Heavy.f
  exact (heavy_loop hs r hr hc r.length 0 0 rfl (by omega) (by omega) (by omega)).as_ (by simp)

/-! often -/
theorem count_drop (r : List Int) (i : Nat) (h : i < r.length) (x : Int) : (r.drop i).count x = (if rd r (i : Int) = x then 1 else 0) + (r.drop (i + 1)).count x := by
  rw [drop_cons r i h, List.count_cons]
  by_cases e : rd r (i : Int) = x
  · simp [e]; omega
  · simp [e]
theorem often_l2 (a b : List Int) (hb : b.length ≤ 60) (v : Nat) (hv : v < 24) (R : Bool) (hnext : Ev (fun k => quaereref1_often.l0 k a b ((v + 1 : Nat) : Int)) R) :
    ∀ (d i : Nat) (n : Int), b.length - i = d → i ≤ b.length → -60 ≤ n → n ≤ 60 → -60 ≤ n - (b.drop i).count (-1 - (v : Int)) →
      Ev (fun k => quaereref1_often.l2 k a b (v : Int) n (i : Int)) (if n - ((b.drop i).count (-1 - (v : Int)) : Nat) < 0 then false else R) := by
  intro d
  induction d with
  | zero =>
    intro i n hd hi h0 h1 h2
    refine Ev.step (f := fun k => if n < 0 then some false else quaereref1_often.l0 k a b ((v + 1 : Nat) : Int)) (fun k => ?_) ?_
    · simp only [quaereref1_often.l2]
      rw [if_neg (by omega), wrap_nat v (by omega)]
    · have e0 : (b.drop i).count (-1 - (v : Int)) = 0 := by rw [List.drop_eq_nil_of_le (by omega)]; rfl
      rw [e0]
      by_cases hn : n < 0
      · rw [if_pos (by omega)]
        exact Ev.if_pos hn (Ev.now _)
      · rw [if_neg (by omega)]
        exact Ev.if_neg hn hnext
  | succ d ih =>
    intro i n hd hi h0 h1 h2
    have hlt : i < b.length := by omega
    have hcd := count_drop b i hlt (-1 - (v : Int))
    have hw : wrap64 ((-1) - (v : Int)) = -1 - (v : Int) := wrap_id _ (by omega) (by omega)
    by_cases e : rd b (i : Int) = -1 - (v : Int)
    · rw [if_pos e] at hcd
      refine Ev.step (f := fun k => quaereref1_often.l2 k a b (v : Int) (n - 1) ((i + 1 : Nat) : Int)) (fun k => ?_) ((ih (i + 1) (n - 1) (by omega) (by omega) (by omega) (by omega) (by omega)).as_ ?_)
      · simp only [quaereref1_often.l2]
        rw [if_pos (by omega), if_pos (by omega), hw, if_pos e, wrap_nat i (by omega), wrap_id _ (by omega) (by omega)]
      · rw [hcd]
        congr 1
        simp only [eq_iff_iff]
        omega
    · rw [if_neg e] at hcd
      refine Ev.step (f := fun k => quaereref1_often.l2 k a b (v : Int) n ((i + 1 : Nat) : Int)) (fun k => ?_) ((ih (i + 1) n (by omega) (by omega) (by omega) (by omega) (by omega)).as_ ?_)
      · simp only [quaereref1_often.l2]
        rw [if_pos (by omega), if_pos (by omega), hw, if_neg e, wrap_nat i (by omega)]
      · rw [hcd]
        congr 1
        simp only [eq_iff_iff]
        omega
theorem often_l1 (a b : List Int) (ha : a.length ≤ 60) (hb : b.length ≤ 60) (v : Nat) (hv : v < 24) (R : Bool) (hnext : Ev (fun k => quaereref1_often.l0 k a b ((v + 1 : Nat) : Int)) R) :
    ∀ (d i n : Nat), a.length - i = d → i ≤ a.length → n + (a.drop i).count (-1 - (v : Int)) ≤ 60 →
      Ev (fun k => quaereref1_often.l1 k a b (v : Int) (n : Int) (i : Int)) (if n + (a.drop i).count (-1 - (v : Int)) < b.count (-1 - (v : Int)) then false else R) := by
  intro d
  induction d with
  | zero =>
    intro i n hd hi h0
    have hcb : b.count (-1 - (v : Int)) ≤ 60 := Nat.le_trans List.count_le_length hb
    refine Ev.step (fun k => ?_) ((often_l2 a b hb v hv R hnext b.length 0 n rfl (by omega) (by omega) (by omega) (by simp; omega)).as_ ?_)
    · simp only [quaereref1_often.l1]
      rw [if_neg (by omega)]
      rfl
    · rw [List.drop_eq_nil_of_le (show a.length ≤ i by omega), List.drop_zero]
      simp only [List.count_nil]
      congr 1
      simp only [eq_iff_iff]
      omega
  | succ d ih =>
    intro i n hd hi h0
    have hlt : i < a.length := by omega
    have hcd := count_drop a i hlt (-1 - (v : Int))
    have hw : wrap64 ((-1) - (v : Int)) = -1 - (v : Int) := wrap_id _ (by omega) (by omega)
    by_cases e : rd a (i : Int) = -1 - (v : Int)
    · rw [if_pos e] at hcd
      refine Ev.step (f := fun k => quaereref1_often.l1 k a b (v : Int) ((n + 1 : Nat) : Int) ((i + 1 : Nat) : Int)) (fun k => ?_) ((ih (i + 1) (n + 1) (by omega) (by omega) (by omega)).as_ ?_)
      · simp only [quaereref1_often.l1]
        rw [if_pos (by omega), if_pos (by omega), hw, if_pos e, wrap_nat i (by omega), wrap_nat n (by omega)]
      · rw [hcd]
        congr 1
        simp only [eq_iff_iff]
        omega
    · rw [if_neg e] at hcd
      refine Ev.step (f := fun k => quaereref1_often.l1 k a b (v : Int) (n : Int) ((i + 1 : Nat) : Int)) (fun k => ?_) ((ih (i + 1) n (by omega) (by omega) (by omega)).as_ ?_)
      · simp only [quaereref1_often.l1]
        rw [if_pos (by omega), if_pos (by omega), hw, if_neg e, wrap_nat i (by omega)]
      · rw [hcd]
        congr 1
        simp only [eq_iff_iff]
        omega
def covFrom (a b : List Int) (v : Nat) : Prop := ∀ u : Nat, v ≤ u → u < 24 → b.count (-1 - (u : Int)) ≤ a.count (-1 - (u : Int))
open Classical in
theorem refOften_l0 (a b : List Int) (ha : a.length ≤ 60) (hb : b.length ≤ 60) : ∀ (d v : Nat), 24 - v = d → v ≤ 24 → Ev (fun k => quaereref1_often.l0 k a b (v : Int)) (decide (covFrom a b v)) := by
  intro d
  induction d with
  | zero =>
    intro v hd hv
    refine Ev.step (f := fun _ => some true) (fun k => ?_) (Ev.some_ ?_)
    · simp only [quaereref1_often.l0]
      rw [if_neg (by omega)]
    · symm
      rw [decide_eq_true_eq]
      intro u h1 h2
      omega
  | succ d ih =>
    intro v hd hv
    have hca : a.count (-1 - (v : Int)) ≤ 60 := Nat.le_trans List.count_le_length ha
    refine Ev.step (fun k => ?_) ((often_l1 a b ha hb v (by omega) _ (ih (v + 1) (by omega) (by omega)) a.length 0 0 rfl (by omega) (by simp; omega)).as_ ?_)
    · simp only [quaereref1_often.l0]
      rw [if_pos (by omega)]
      rfl
    · rw [List.drop_zero, Nat.zero_add]
      by_cases h : a.count (-1 - (v : Int)) < b.count (-1 - (v : Int))
      · rw [if_pos h]
        symm
        rw [decide_eq_false_iff_not]
        intro k
        have := k v (Nat.le_refl _) (by omega)
        omega
      · rw [if_neg h, decide_eq_decide]
        constructor
        · intro k u h1 h2
          rcases Nat.lt_or_ge v u with h3 | h3
          · exact k u (by omega) h2
          · obtain rfl : u = v := by omega
            omega
        · intro k u h1 h2
          exact k u (by omega) h2
open Classical in
theorem refOften_ev (a b : List Int) (ha : a.length ≤ 60) (hb : b.length ≤ 60) : Ev (fun k => quaereref1_often.f k a b) (decide (Cov a b)) := by
  unfold quaereref1_often.f
  refine (refOften_l0 a b ha hb 24 0 rfl (by omega)).as_ ?_
  rw [decide_eq_decide]
  exact ⟨fun h v hv => h v (Nat.zero_le _) hv, fun h v _ hv => h v hv⟩

/-! the terms of a row -/
theorem behind_loop {l : List S58} (hs : SignOk l) (r : List Int) (hr : r.length ≤ 60) : ∀ (d i n : Nat) (s : List Int), r.length - i ≤ d → i ≤ r.length → n + 3 * d ≤ 1000 → skipN (arS l) (r.drop i) n = some s → Ev (fun k => quaereref1_behind.l0 k l r (n : Int) (i : Int)) ((r.length : Int) - s.length) := by
  intro d
  induction d with
  | zero =>
    intro i n s hd hi hb h
    rw [List.drop_eq_nil_of_le (by omega)] at h
    cases n with
    | zero =>
      rw [skipN_zero] at h
      obtain rfl := Option.some.inj h
      refine Ev.step (f := fun _ => some (i : Int)) (fun k => ?_) (Ev.some_ (by simp; omega))
      simp only [quaereref1_behind.l0]
      rw [if_neg (by omega)]
    | succ n => rw [skipN_nil] at h; cases h
  | succ d ih =>
    intro i n s hd hi hb h
    cases n with
    | zero =>
      rw [skipN_zero] at h
      obtain rfl := Option.some.inj h
      refine Ev.step (f := fun _ => some (i : Int)) (fun k => ?_) (Ev.some_ (by simp; omega))
      simp only [quaereref1_behind.l0]
      rw [if_neg (by omega)]
    | succ n =>
      by_cases hlt : i < r.length
      · rw [drop_cons r i hlt, skipN_cons] at h
        cases e : arS l (rd r (i : Int)) with
        | none => rw [e] at h; cases h
        | some m =>
          rw [e] at h
          have hm := arS_le hs e
          have ih' := ih (i + 1) (n + m) s (by omega) (by omega) (by omega) h
          refine Ev.step (f := fun k => quaereref1_behind.l0 k l r ((n + m : Nat) : Int) ((i + 1 : Nat) : Int)) (fun k => ?_) ih'
          simp only [quaereref1_behind.l0]
          rw [if_pos (by omega), if_pos (by omega), if_pos (by omega)]
          by_cases hc : rd r (i : Int) ≥ 0
          · obtain ⟨h1, h2, h3⟩ := arS_pos hc e
            have e2 : rd_T58 l (rd r (i : Int)) = l.getD (rd r (i : Int)).toNat z58 := rfl
            have har := sign_arity hs (rd r (i : Int)).toNat (by omega)
            rw [if_pos hc, if_pos hc, if_pos h1, e2, wrap_nat i (by omega)]
            congr 1
            unfold wrap64
            omega
          · obtain ⟨rfl, _⟩ := arS_neg (by omega) e
            rw [if_neg hc, wrap_nat i (by omega)]
            congr 1
            unfold wrap64
            omega
      · rw [List.drop_eq_nil_of_le (by omega), skipN_nil] at h
        cases h
theorem refParts_loop {l : List S58} (hs : SignOk l) (r : List Int) (hr : r.length ≤ 60) : ∀ (m i : Nat) (out : List (List Int)), isN (arS l) m (r.drop i) → i ≤ r.length → out.length ≤ i → Ev (fun k => quaereref1_Parts.l0 k l r out (i : Int)) (out ++ pcs l (r.drop i)) := by
  intro m
  induction m with
  | zero =>
    intro i out hn hi ho
    have e := isN_zero hn
    have e2 := congrArg List.length e
    rw [List.length_drop, List.length_nil] at e2
    refine Ev.step (f := fun _ => some out) (fun k => ?_) (Ev.some_ ?_)
    · simp only [quaereref1_Parts.l0]
      rw [if_neg (by omega)]
    · rw [e]
      simp [pcs, parts]
  | succ m ih =>
    intro i out hn hi ho
    rw [Nat.add_comm] at hn
    obtain ⟨t, s, e, ht, hs'⟩ := isN_split hn
    have htl := isN_pos ht
    have hll : (r.drop i).length = t.length + s.length := by rw [e]; simp
    rw [List.length_drop] at hll
    have hdr : r.drop (i + t.length) = s := by rw [← List.drop_drop, e]; simp
    have htk : (r.take (i + t.length)).drop i = t := by
      rw [List.drop_take, e, show i + t.length - i = t.length by omega]
      simp
    have hb := behind_loop hs r hr r.length i 1 s (by omega) hi (by omega) (by rw [e]; exact isN_skip ht)
    have hv : (r.length : Int) - s.length = ((i + t.length : Nat) : Int) := by omega
    rw [hv] at hb
    have ih' := ih (i + t.length) (out ++ [t]) (by rw [hdr]; exact hs') (by omega) (by simp; omega)
    rw [hdr] at ih'
    rw [e, pcs_cons ht]
    refine Ev.step (f := fun k => (quaereref1_behind.f k l r (i : Int)).bind fun b => if 0 ≤ (i : Int) then (if (i : Int) ≤ b then (if b ≤ (r.length : Int) then (if out.length < 5864062014805 then quaereref1_Parts.l0 k l r (out ++ [((r.take (b : Int).toNat).drop (i : Int).toNat)]) b else none) else none) else none) else none) (fun k => ?_) (Ev.bind (show Ev (fun k => quaereref1_behind.f k l r (i : Int)) ((i + t.length : Nat) : Int) from by unfold quaereref1_behind.f; exact hb) ?_)
    · simp only [quaereref1_Parts.l0]
      rw [if_pos (by omega)]
    · refine Ev.if_pos (by omega) (Ev.if_pos (by omega) (Ev.if_pos (by omega) (Ev.if_pos (by omega) ?_)))
      simp only [Int.toNat_natCast]
      rw [htk]
      exact ih'.as_ (by simp)
theorem refParts_ev {l : List S58} (hs : SignOk l) {n : Nat} {r : List Int} (hr : r.length ≤ 60) (hn : isN (arS l) n r) : Ev (fun k => quaereref1_Parts.f k l r) (pcs l r) := by
  unfold quaereref1_Parts.f
  exact (refParts_loop hs r hr n 0 [] (by simpa using hn) (by omega) (by simp)).as_ (by simp)

/-! more -/
theorem refMore_rows {l : List S58} (R : Bool) : ∀ (d i : Nat) (ps qs : List (List Int)), ps.length - i = d → ps.length = qs.length → ps.length ≤ 60 → i ≤ ps.length → (∀ x ∈ ps, x.length ≤ 60) →
    (∀ x y, unlikeV (ps.drop i) (qs.drop i) = some (x, y) → Ev (fun k => quaereref1_More.f k l x y) R) → (unlikeV (ps.drop i) (qs.drop i) = none → R = false) → Ev (fun k => quaereref1_More.l0 k l ps qs (i : Int)) R := by
  intro d
  induction d with
  | zero =>
    intro i ps qs hd hl hn hi hx h1 h2
    refine Ev.step (f := fun _ => some false) (fun k => ?_) (Ev.some_ ?_)
    · simp only [quaereref1_More.l0]
      rw [if_neg (by omega)]
    · refine (h2 ?_).symm
      rw [List.drop_eq_nil_of_le (show ps.length ≤ i by omega)]
      rfl
  | succ d ih =>
    intro i ps qs hd hl hn hi hx h1 h2
    have hlt : i < ps.length := by omega
    have hlt' : i < qs.length := by omega
    have e1 : ps.drop i = rd_L2 ps (i : Int) :: ps.drop (i + 1) := by rw [rd_L_nat ps i hlt, List.drop_eq_getElem_cons hlt]
    have e2 : qs.drop i = rd_L2 qs (i : Int) :: qs.drop (i + 1) := by rw [rd_L_nat qs i hlt', List.drop_eq_getElem_cons hlt']
    have hxl : (rd_L2 ps (i : Int)).length ≤ 60 := hx _ (by rw [rd_L_nat ps i hlt]; exact List.getElem_mem _)
    rw [e1, e2] at h1 h2
    simp only [unlikeV] at h1 h2
    refine Ev.step (f := fun k => (quaereref1_Same.f k (rd_L2 ps (i : Int)) (rd_L2 qs (i : Int))).bind fun t => if t = true then quaereref1_More.l0 k l ps qs ((i + 1 : Nat) : Int) else quaereref1_More.f k l (rd_L2 ps (i : Int)) (rd_L2 qs (i : Int))) (fun k => ?_) (Ev.bind (refSame_ev _ _ (by omega)) ?_)
    · simp only [quaereref1_More.l0]
      rw [if_pos (by omega), if_pos (by omega), if_pos (by omega), wrap_nat i (by omega)]
      congr 1
      funext t
      cases t with
      | true => rfl
      | false => cases quaereref1_More.f k l (rd_L2 ps (i : Int)) (rd_L2 qs (i : Int)) <;> rfl
    · by_cases e : rd_L2 ps (i : Int) = rd_L2 qs (i : Int)
      · rw [if_pos e] at h2
        refine Ev.if_pos (by simpa using e) (ih (i + 1) ps qs (by omega) hl hn (by omega) hx (fun x y h => h1 x y (by rw [if_pos e]; exact h)) h2)
      · exact Ev.if_neg (by simpa using e) (h1 _ _ (by rw [if_neg e]))
open Classical in
theorem refMore_ev {l : List S58} : ∀ (n : Nat) (a b : List Int), a.length ≤ n → Text l a → Text l b → Ev (fun k => quaereref1_More.f k l a b) (decide (More l a b)) := by
  intro n
  induction n with
  | zero => intro a b hn ha; have := text_len ha; omega
  | succ n ih =>
    intro a b hn ha hb
    have la := text_len ha
    have lb := text_len hb
    have ca := text_codes ha
    have cb := text_codes hb
    have hs := ha.1
    have key := moreV_iff (l := l) (n + 1) a b hn la.2.2 lb.2.2
    have hmv : decide (More l a b) = moreV l (n + 1) a b := by
      by_cases h : More l a b
      · rw [decide_eq_true h, key.2 h]
      · rw [decide_eq_false h]
        symm
        simpa [h] using key
    rw [hmv]
    have j0t : Ev (fun k => quaereref1_More.j0 k l a b (sumV l a) (sumV l b) true) false := Ev.step (f := fun _ => some false) (fun k => by simp only [quaereref1_More.j0]; rw [if_pos trivial]) (Ev.now _)
    refine Ev.step (fun k => rfl) (Ev.bind (heavy_ev hs a (by omega) (fun c hc => (ca c hc).2)) (Ev.bind (heavy_ev hs b (by omega) (fun c hc => (cb c hc).2)) (Ev.bind (refOften_ev a b (by omega) (by omega)) ?_)))
    by_cases hcov : Cov a b
    · rw [moreV, (covers_iff a b).2 hcov, Bool.true_and]
      refine Ev.if_pos (by simpa using hcov) ?_
      by_cases hlt : sumV l a < sumV l b
      · rw [decide_eq_true hlt, if_neg (by omega), decide_eq_false (by omega)]
        exact j0t
      · rw [decide_eq_false hlt]
        by_cases hgt : sumV l a > sumV l b
        · rw [if_neg (by omega), decide_eq_true (by omega)]
          refine Ev.step (f := fun k => quaereref1_More.j1 k l a b (sumV l a) (sumV l b) true) (fun k => ?_) (Ev.step (f := fun _ => some true) (fun k => ?_) (Ev.now _))
          · simp only [quaereref1_More.j0]
            rw [if_neg (by decide), if_pos hgt]
          · simp only [quaereref1_More.j1]
            rw [if_pos trivial, if_pos hgt]
        · have heq : sumV l a = sumV l b := by omega
          rw [if_pos heq]
          refine Ev.step (f := fun k => quaereref1_More.j1 k l a b (sumV l a) (sumV l b) (rd a 0 != rd b 0)) (fun k => ?_) ?_
          · simp only [quaereref1_More.j0]
            rw [if_neg (by decide), if_neg hgt, if_pos (by omega), if_pos (by omega)]
          · by_cases he : rd a 0 = rd b 0
            · have e0 : (rd a 0 != rd b 0) = false := by simpa using he
              rw [e0, if_pos he]
              have key2 : ∀ (t : List Int), Text l t → ∃ m, isN (arS l) m (t.drop 1) ∧ (t.drop 1).length + 1 = t.length ∧ m = arT l (rd t 0) := by
                rintro t ⟨_, c, r, rfl, _, _, _, hr⟩
                exact ⟨arT l c, by simpa using hr, by simp, rfl⟩
              obtain ⟨ma, ka1, ka2, ka3⟩ := key2 a ha
              obtain ⟨mb, kb1, kb2, kb3⟩ := key2 b hb
              rw [← he, ← ka3] at kb3
              subst kb3
              have pa := pcs_mem (l := l) (a.drop 1).length (a.drop 1) (Nat.le_refl _)
              have pb := pcs_mem (l := l) (b.drop 1).length (b.drop 1) (Nat.le_refl _)
              have la2 : (pcs l (a.drop 1)).length = mb := by rw [pcs_row ka1]; exact (parts_flatten ka1).2.1
              have lb2 : (pcs l (b.drop 1)).length = mb := by rw [pcs_row kb1]; exact (parts_flatten kb1).2.1
              refine Ev.step (f := fun k => (quaereref1_Parts.f k l (a.drop 1)).bind fun t => (quaereref1_Parts.f k l (b.drop 1)).bind fun u => quaereref1_More.l0 k l t u 0) (fun k => ?_) (Ev.bind (refParts_ev hs (by omega) ka1) (Ev.bind (refParts_ev hs (by omega) kb1) ?_))
              · simp only [quaereref1_More.j1]
                rw [if_neg (by decide), if_pos (by omega)]
                congr 1
                funext t
                rw [if_pos (by omega)]
              · refine refMore_rows _ (pcs l (a.drop 1)).length 0 _ _ rfl (by omega) (by omega) (by omega) (fun x hx => by have := (pa.2 x hx).2.1; omega) ?_ ?_
                · intro x y hu
                  rw [List.drop_zero, List.drop_zero] at hu
                  rw [hu]
                  obtain ⟨m1, m2, _⟩ := unlikeV_some hu
                  obtain ⟨i1, l1, _⟩ := pa.2 _ m1
                  obtain ⟨i2, l2, _⟩ := pb.2 _ m2
                  have tx := text_one hs (show x.length ≤ 49 by omega) i1
                  have ty := text_one hs (show y.length ≤ 49 by omega) i2
                  refine (ih x y (by omega) tx ty).as_ ?_
                  have k2 := moreV_iff (l := l) n x y (by omega) (text_len tx).2.2 (text_len ty).2.2
                  by_cases h : More l x y
                  · simp only [decide_eq_true h, k2.2 h]
                  · rw [decide_eq_false h]
                    symm
                    simpa [h] using k2
                · intro hu
                  rw [List.drop_zero, List.drop_zero] at hu
                  rw [hu]
            · have e0 : (rd a 0 != rd b 0) = true := by simpa using he
              rw [e0, if_neg he]
              refine Ev.step (f := fun _ => some (decide (rd a 0 > rd b 0))) (fun k => ?_) (Ev.now _)
              simp only [quaereref1_More.j1]
              rw [if_pos trivial, if_neg hgt, if_pos (by omega), if_pos (by omega)]
    · have e0 : coversB a b = false := by
        rw [← Bool.not_eq_true, covers_iff]
        exact hcov
      rw [moreV, e0, Bool.false_and]
      exact Ev.if_neg (by simpa using hcov) j0t
theorem refWhich_ev {l : List S58} {a b : List Int} (ha : Text l a) (hb : Text l b) : Ev (fun k => quaereref1_Which.f k l a b) (whichV l a b) := by
  classical
  unfold quaereref1_Which.f whichV
  refine Ev.bind (refSame_ev a b (by have := text_len ha; omega)) ?_
  by_cases h : a = b
  · rw [if_pos h]
    exact Ev.if_pos (by simpa using h) (Ev.now _)
  · rw [if_neg h]
    refine Ev.if_neg (by simpa using h) (Ev.bind (refMore_ev a.length a b (Nat.le_refl _) ha hb) ?_)
    by_cases h1 : More l a b
    · rw [if_pos h1]
      exact Ev.if_pos (by simpa using h1) (Ev.now _)
    · rw [if_neg h1]
      refine Ev.if_neg (by simpa using h1) (Ev.bind (refMore_ev b.length b a (Nat.le_refl _) hb ha) ?_)
      by_cases h2 : More l b a
      · rw [if_pos h2]
        exact Ev.if_pos (by simpa using h2) (Ev.now _)
      · rw [if_neg h2]
        exact Ev.if_neg (by simpa using h2) (Ev.now _)
end Go.Proofs.YtfnemhkiopgeaaaDoor.PK
