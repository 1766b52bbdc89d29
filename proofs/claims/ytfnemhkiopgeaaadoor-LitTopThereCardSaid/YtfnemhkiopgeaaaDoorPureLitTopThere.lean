/- LitTopThere, plainly. -/
import Derived.Test.YtfnemhkiopgeaaaDoorWantLitTopThere
import Derived.Test.YtfnemhkiopgeaaaDoorAwake7
import Derived.Test.YtfnemhkiopgeaaaDoorPLx0
import Derived.Test.YtfnemhkiopgeaaaDoorPLx4
import Derived.Test.YtfnemhkiopgeaaaDoorPLx14
import Derived.Test.YtfnemhkiopgeaaaDoorPLx21
namespace Go.Proofs.YtfnemhkiopgeaaaDoor.PL
open Go Go.RowKit Go.Proofs.YtfnemhkiopgeaaaDoorW.PrintWords Go.Proofs.YtfnemhkiopgeaaaDoorW.PrintLast Go.Proofs.YtfnemhkiopgeaaaDoor
set_option linter.unusedVariables false
set_option linter.unusedSimpArgs false
theorem whichL_two (l : List S58) (b d : Bool) (x y : List Int) : whichL l b x d y = 2 ↔ More l x y ∨ (x = y ∧ b = true ∧ d = false) := by
  classical
  unfold whichL
  rcases whichV_cases l x y with ⟨e, h⟩ | ⟨e, h1, h2⟩ | ⟨e, h1, h2, _⟩ | ⟨e, h1, h2, _⟩
  · subst h
    rw [e]
    have hm : ¬ More l x x := fun k => k.ne rfl
    cases b <;> cases d <;> simp [hm]
  · rw [e, if_neg (fun k => by omega)]
    simp [h2]
  · rw [e, if_neg (fun k => by omega)]
    simp [h1, h2]
  · rw [e, if_neg (fun k => by omega)]
    simp [h1, h2]
theorem cmp_irrefl (l : List S58) (x : S25) : cmpL l x x ≠ 2 := by
  unfold cmpL
  rw [Ne, whichL_two]
  rintro (h | ⟨_, h1, h2⟩)
  · exact h.ne rfl
  · rw [h1] at h2; cases h2
theorem cmp_trans {l : List S58} {x y z : S25} (h1 : cmpL l x y = 2) (h2 : cmpL l y z = 2) : cmpL l x z = 2 := by
  unfold cmpL at *
  rw [whichL_two] at *
  rcases h1 with h1 | ⟨e1, b1, d1⟩
  · rcases h2 with h2 | ⟨e2, b2, d2⟩
    · exact .inl (h1.trans h2)
    · left; rw [← e2]; exact h1
  · rcases h2 with h2 | ⟨e2, b2, d2⟩
    · left; rw [e1]; exact h2
    · rw [d1] at b2; cases b2
theorem top_there (l : List S58) : ∀ (ls : List S25), ls ≠ [] → ∃ x ∈ ls, ∀ m ∈ ls, cmpL l m x ≠ 2 := by
  intro ls
  induction ls with
  | nil => intro h; exact absurd rfl h
  | cons x xs ih =>
    intro _
    by_cases hx : xs = []
    · subst hx
      exact ⟨x, List.mem_cons_self .., fun m hm => by rw [List.mem_singleton] at hm; subst hm; exact cmp_irrefl l m⟩
    · obtain ⟨y, hy, hmax⟩ := ih hx
      by_cases hxy : cmpL l x y = 2
      · refine ⟨x, List.mem_cons_self .., fun m hm e => ?_⟩
        rcases List.mem_cons.1 hm with rfl | hm
        · exact cmp_irrefl l _ e
        · exact hmax m hm (cmp_trans e hxy)
      · refine ⟨y, List.mem_cons_of_mem _ hy, fun m hm => ?_⟩
        rcases List.mem_cons.1 hm with rfl | hm
        · exact hxy
        · exact hmax m hm
theorem topsTo_split (g : S25 → Bool) (ls : List S25) (i : Nat) : ∀ n, i ≤ n → ∃ r, topsTo g ls n = topsTo g ls i ++ r ∧ ∀ c ∈ r, (i : Int) ≤ c
  | 0, h => ⟨[], by obtain rfl : i = 0 := by omega
                    rfl, fun c hc => by cases hc⟩
  | n + 1, h => by
    rcases Nat.lt_or_ge n i with h1 | h1
    · obtain rfl : i = n + 1 := by omega
      exact ⟨[], by simp, fun c hc => by cases hc⟩
    · obtain ⟨r, hr, hc⟩ := topsTo_split g ls i n h1
      refine ⟨r ++ (if g (ls.getD n z25) = true then [] else [(n : Int)]), by simp only [topsTo]; rw [hr, List.append_assoc], fun c hm => ?_⟩
      rcases List.mem_append.1 hm with hm | hm
      · exact hc c hm
      · split at hm
        · cases hm
        · rw [List.mem_singleton] at hm
          omega
/-- What stands at the place in the tops that is reached at the i-th literal. -/
theorem topsTo_next (g : S25 → Bool) (ls : List S25) (i n : Nat) (h : i < n) : ((topsTo g ls i).length < (topsTo g ls n).length ∧ rd (topsTo g ls n) ((topsTo g ls i).length : Int) = (i : Int)) ↔ g (ls.getD i z25) = false := by
  obtain ⟨r, hr, hc⟩ := topsTo_split g ls (i + 1) n (by omega)
  have e1 : topsTo g ls (i + 1) = topsTo g ls i ++ (if g (ls.getD i z25) = true then [] else [(i : Int)]) := rfl
  rw [e1, List.append_assoc] at hr
  rw [hr]
  have hrd : ∀ s : List Int, (topsTo g ls i).length < (topsTo g ls i ++ s).length → rd (topsTo g ls i ++ s) ((topsTo g ls i).length : Int) = s.headD 0 := by
    intro s hs
    rw [rd_nat _ _ hs]
    cases s with
    | nil => simp at hs
    | cons a s => simp
  cases hg : g (ls.getD i z25) with
  | true =>
    rw [if_pos rfl, List.nil_append]
    constructor
    · rintro ⟨h1, h2⟩
      rw [hrd r h1] at h2
      cases r with
      | nil => simp at h1
      | cons a r =>
        have := hc a (List.mem_cons_self ..)
        simp only [List.headD_cons] at h2
        omega
    · intro h; cases h
  | false =>
    rw [if_neg (by decide)]
    refine ⟨fun _ => rfl, fun _ => ?_⟩
    have hl : (topsTo g ls i).length < (topsTo g ls i ++ ([(i : Int)] ++ r)).length := by simp
    exact ⟨hl, by rw [hrd _ hl]; rfl⟩
theorem quaerelaw7_LitTopThere.pure : quaerelaw7_LitTopThere.Pure := by
  classical
  intro l ls _ wl
  refine Ev.get (r := true) ?_
  unfold quaerelaw7_LitTopThere.f
  simp only [quaerelaw0_Num.f, Option.bind_some]
  refine Ev.bind awake7_ev (Ev.if_pos rfl ?_)
  by_cases h30 : (ls.length : Int) > 30
  · exact Ev.if_pos h30 (Ev.now _)
  · refine Ev.if_neg h30 (Ev.bind (tops_ev l ls (by omega)) ?_)
    unfold TopsV topsV
    by_cases hc : signB l = true ∧ ls.all (mayL l) = true
    · rw [if_pos hc]
      have ha : ∀ x ∈ ls, Atom l x.f1 := fun x hx => by simpa [mayL] using List.all_eq_true.1 hc.2 x hx
      obtain ⟨g, hg⟩ : ∃ g : S25 → Bool, g = fun x => ls.any (fun m => cmpL l m x == 2) := ⟨_, rfl⟩
      rw [← hg]
      refine Ev.if_pos rfl ?_
      simp only
      have l0 : ∀ (d i : Nat), ls.length - i = d → i ≤ ls.length → Ev (fun k => quaerelaw7_LitTopThere.l0 k l ls (topsTo g ls ls.length) ((topsTo g ls i).length : Int) (i : Int)) true := by
        intro d
        induction d with
        | zero =>
          intro i hd hi
          obtain rfl : i = ls.length := by omega
          refine Ev.step (f := fun _ => some true) (fun k => ?_) (Ev.now _)
          simp only [quaerelaw7_LitTopThere.l0]
          rw [if_neg (by omega)]
          simp
        | succ d ih =>
          intro i hd hi
          have hlt : i < ls.length := by omega
          have ei : rd_T25 ls (i : Int) = ls.getD i z25 := getD_lit ls i
          have him : ls.getD i z25 ∈ ls := by
            rw [List.getD_eq_getElem?_getD, List.getElem?_eq_getElem hlt]
            exact List.getElem_mem _
          have hlen := topsTo_len g ls i
          have hih := ih (i + 1) (by omega) (by omega)
          have hn := topsTo_next g ls i ls.length hlt
          have e1 : topsTo g ls (i + 1) = topsTo g ls i ++ (if g (ls.getD i z25) = true then [] else [(i : Int)]) := rfl
          have j3 : Ev (fun k => quaerelaw7_LitTopThere.j3 k l ls (topsTo g ls ls.length) ((topsTo g ls i).length : Int) (i : Int) (g (ls.getD i z25)) (!(g (ls.getD i z25)))) true := by
            cases hgi : g (ls.getD i z25) with
            | true =>
              rw [hgi, if_pos rfl, List.append_nil] at e1
              rw [e1] at hih
              refine Ev.step (fun k => ?_) hih
              simp only [quaerelaw7_LitTopThere.j3]
              rw [if_neg (by decide), if_neg (by decide), wrap_nat i (by omega)]
            | false =>
              rw [hgi, if_neg (by decide)] at e1
              rw [e1, List.length_append] at hih
              refine Ev.step (fun k => ?_) hih
              simp only [quaerelaw7_LitTopThere.j3]
              rw [if_neg (by decide), if_pos (show (!false) = true from rfl), wrap_nat i (by omega), wrap_nat (topsTo g ls i).length (by omega)]
              rfl
          have l1 : ∀ (e j : Nat) (is : Bool), ls.length - j = e → j ≤ ls.length → (is || (ls.drop j).any fun m => cmpL l m (ls.getD i z25) == 2) = g (ls.getD i z25) → Ev (fun k => quaerelaw7_LitTopThere.l1 k l ls (topsTo g ls ls.length) ((topsTo g ls i).length : Int) (i : Int) is (j : Int)) true := by
            intro e
            induction e with
            | zero =>
              intro j is he hj hb
              rw [List.drop_eq_nil_of_le (by omega)] at hb
              simp only [List.any_nil, Bool.or_false] at hb
              subst hb
              by_cases hat : (topsTo g ls i).length < (topsTo g ls ls.length).length
              · refine Ev.step (fun k => ?_) j3
                simp only [quaerelaw7_LitTopThere.l1]
                rw [if_neg (by omega), if_pos (by omega), if_pos (by omega)]
                congr 1
                by_cases hv : rd (topsTo g ls ls.length) ((topsTo g ls i).length : Int) = (i : Int)
                · rw [hn.1 ⟨hat, hv⟩]
                  simpa using hv
                · have : g (ls.getD i z25) ≠ false := fun k => hv (hn.2 k).2
                  rw [Bool.ne_false_iff] at this
                  rw [this]
                  simpa using hv
              · have : g (ls.getD i z25) ≠ false := fun k => hat (hn.2 k).1
                rw [Bool.ne_false_iff] at this
                rw [this] at j3 ⊢
                refine Ev.step (fun k => ?_) j3
                simp only [quaerelaw7_LitTopThere.l1]
                rw [if_neg (by omega), if_neg (by omega)]
                rfl
            | succ e ihe =>
              intro j is he hj hb
              have hltj : j < ls.length := by omega
              have ej : rd_T25 ls (j : Int) = ls[j] := rd_lit ls j hltj
              have hcmp : LitCompareV l ls[j].f0 ls[j].f1 (ls.getD i z25).f0 (ls.getD i z25).f1 = (cmpL l ls[j] (ls.getD i z25), 0) := if_pos ⟨ha _ (List.getElem_mem _), ha _ him⟩
              rw [List.drop_eq_getElem_cons hltj, List.any_cons] at hb
              refine Ev.step (f := fun k => (lit_Compare.f k l (rd_T25 ls (j : Int)).f0 (rd_T25 ls (j : Int)).f1 (rd_T25 ls (i : Int)).f0 (rd_T25 ls (i : Int)).f1).bind fun t => if is = true then quaerelaw7_LitTopThere.l1 k l ls (topsTo g ls ls.length) ((topsTo g ls i).length : Int) (i : Int) true ((j + 1 : Nat) : Int) else if t.2 = 0 then quaerelaw7_LitTopThere.l1 k l ls (topsTo g ls ls.length) ((topsTo g ls i).length : Int) (i : Int) (t.1 == 2) ((j + 1 : Nat) : Int) else quaerelaw7_LitTopThere.l1 k l ls (topsTo g ls ls.length) ((topsTo g ls i).length : Int) (i : Int) false ((j + 1 : Nat) : Int)) (fun k => ?_) (Ev.bind (litCompare_ev l _ _ _ _) ?_)
              · simp only [quaerelaw7_LitTopThere.l1, quaerelaw0_Num.f, Option.bind_some]
                rw [if_pos (by omega), if_pos (by omega), if_pos (by omega), if_pos (by omega), wrap_nat j (by omega)]
              · rw [ej, ei, hcmp]
                cases is with
                | true => exact Ev.if_pos rfl (ihe (j + 1) true (by omega) (by omega) (by simpa using hb))
                | false => exact Ev.if_neg (by decide) (Ev.if_pos rfl (ihe (j + 1) _ (by omega) (by omega) (by simpa using hb)))
          refine Ev.step (fun k => ?_) (l1 ls.length 0 false rfl (by omega) (by rw [List.drop_zero, hg]; simp))
          simp only [quaerelaw7_LitTopThere.l0]
          rw [if_pos (by omega)]
          rfl
      have hall := l0 ls.length 0 rfl (by omega)
      have jf : Ev (fun k => quaerelaw7_LitTopThere.j0 k l ls (topsTo g ls ls.length) false) true := by
        refine Ev.step (fun k => ?_) hall
        simp only [quaerelaw7_LitTopThere.j0]
        rw [if_neg (by decide)]
        rfl
      by_cases hne : (ls.length : Int) > 0
      · refine Ev.if_pos hne ?_
        obtain ⟨x, hx, hmax⟩ := top_there l ls (by rintro rfl; simp at hne)
        obtain ⟨i, hi, rfl⟩ := List.mem_iff_getElem.1 hx
        have hgi : g (ls.getD i z25) = false := by
          have e : ls.getD i z25 = ls[i] := by simp [List.getD_eq_getElem?_getD, List.getElem?_eq_getElem hi]
          rw [e, hg, ← Bool.not_eq_true, List.any_eq_true]
          rintro ⟨m, hm, e2⟩
          exact hmax m hm (by simpa using e2)
        have := ((topsTo_next g ls i ls.length hi).2 hgi).1
        have e0 : (((topsTo g ls ls.length).length : Int) == 0) = false := by
          rw [beq_eq_false_iff_ne]
          omega
        rw [e0]
        exact jf
      · exact Ev.if_neg hne jf
    · rw [if_neg hc]
      exact Ev.if_neg (by decide) (Ev.some_ rfl)
end Go.Proofs.YtfnemhkiopgeaaaDoor.PL
