/- SignNames answers true for every name: a name is taken just if it is one to eight small letters and digits, a letter first. No conditions. -/
import Derived.Test.YtmgombdimppnpaaDoorWantSignNames
import Derived.Test.YtmgombdimppnpaaDoorSignMore
import Derived.Test.YtmgombdimppnpaaDoorPSx0
import Derived.Test.YtmgombdimppnpaaDoorPSx4
import Derived.Test.YtmgombdimppnpaaDoorPSx5
import Derived.Test.YtmgombdimppnpaaDoorPSx8
namespace Go.Proofs.YtmgombdimppnpaaDoor.PS
open Go Go.RowKit Go.Proofs.YtmgombdimppnpaaDoorW.PrintWords Go.Proofs.YtmgombdimppnpaaDoorW.PrintLast Go.Proofs.YtmgombdimppnpaaDoor
def eqSym : S33 := ⟨⟨#[61]⟩, 0, 2, 1⟩
theorem base_ok : SignOk [eqSym] := by
  refine ⟨by simp, by simp, ⟨?_, rfl, rfl, rfl⟩, fun j h1 h2 => by simp at h2; omega⟩
  show (⟨#[61]⟩ : ByteArray).toList = [61]
  rw [toList_data]
theorem base_find (s : ByteArray) (h : NameOk s) : findV [eqSym] s = -1 := by
  unfold findV findFrom findFrom
  rw [if_neg]
  intro e
  have e1 : ([61] : List UInt8) = s.toList := by
    have : eqSym.f0.toList = [61] := by show (⟨#[61]⟩ : ByteArray).toList = [61]; rw [toList_data]
    rw [← this]; exact e
  have hb := bt_toList s 0 (by have := h.1; omega)
  have h0 := h.2.2.1
  have : (s.toList[0]'(by rw [toList_length]; have := h.1; omega)) = 61 := by simp [← e1]
  rw [this] at hb
  unfold isSmall at h0
  have hb' : bt s 0 = 61 := by simpa using hb
  omega

theorem names_end (s : ByteArray) (b : Bool) (hb : b = @decide (NameOk s) (Classical.propDecidable _)) : Ev (fun k => (quaerelaw1_base.f).bind fun t242 => ((sign_Add.f k t242 s 1 0 1).bind fun bt245 => (if b = true then ((quaerelaw0_Num.f bt245.2).bind fun t249 => (if t249 = 0 then (if (bt245.1.length : Int) = 2 then (if 1 < (bt245.1.length : Int) then (some (((rd_T33 bt245.1 1).f0).toList == s.toList)) else (none)) else (some false)) else (some false))) else ((quaerelaw0_Num.f bt245.2).bind fun t251 => (if t251 = 100 then (some ((bt245.1.length : Int) == 0)) else (some false)))))) true := by
  classical
  have hbase : quaerelaw1_base.f = some [eqSym] := rfl
  simp only [hbase, Option.bind_some]
  have ha := Add_ev [eqSym] ⟨s, 1, 0, 1⟩
  refine Ev.bind ha ?_
  have hs : signB [eqSym] = true := signB_true.2 base_ok
  by_cases hn : NameOk s
  · have hy : symB ⟨s, 1, 0, 1⟩ = true := by
      simp only [symB, decide_eq_true_eq]
      exact ⟨hn, by show (0 : Int) ≤ 1; omega, by show (1 : Int) ≤ 2; omega, by show (0 : Int) ≤ 0; omega, by show (0 : Int) ≤ 3; omega, by show (1 : Int) ≤ 1; omega, by show (1 : Int) ≤ 20; omega⟩
    have hA : AddV [eqSym] ⟨s, 1, 0, 1⟩ = ([eqSym, ⟨s, 1, 0, 1⟩], 0) := by
      unfold AddV
      rw [if_pos ⟨hs, hy⟩]
      have : findV [eqSym] (S33.f0 ⟨s, 1, 0, 1⟩) = -1 := base_find s hn
      rw [this, if_neg (by omega), if_neg (by simp)]
      rfl
    have hb1 : b = true := by rw [hb]; simp [hn]
    subst hb1
    refine Ev.of_some ?_
    rw [hA]
    simp [quaerelaw0_Num.f, rd_T33]
  · have hy : ¬ symB ⟨s, 1, 0, 1⟩ = true := by
      simp only [symB, decide_eq_true_eq]
      exact fun h => hn h.1
    have hA : AddV [eqSym] ⟨s, 1, 0, 1⟩ = ([], 100) := by
      unfold AddV
      rw [if_neg (fun h => hy h.2)]
    have hb1 : b = false := by rw [hb]; simp [hn]
    subst hb1
    refine Ev.of_some ?_
    rw [hA]
    simp [quaerelaw0_Num.f]

theorem names_loop (s : ByteArray) (hs : s.size ≤ 140737488351232) (h0 : Prop) (hh : ∀ (b : Bool), b = @decide (h0 ∧ (0 < s.size → isSmall (bt s 0)) ∧ ∀ j, j < s.size → isLetter (bt s (j : Int))) (Classical.propDecidable _) → b = @decide (NameOk s) (Classical.propDecidable _)) :
    ∀ (d i : Nat) (b : Bool), s.size - i = d → i ≤ s.size → b = @decide (h0 ∧ (0 < i → isSmall (bt s 0)) ∧ ∀ j, j < i → isLetter (bt s (j : Int))) (Classical.propDecidable _) → Ev (fun k => quaerelaw1_SignNames.l0 k s b (i : Int)) true := by
  classical
  intro d
  induction d with
  | zero =>
    intro i b hd hi hb
    obtain rfl : i = s.size := by omega
    refine Ev.step (fun k => ?_) (names_end s b (hh b hb))
    simp only [quaerelaw1_SignNames.l0]
    rw [if_neg (by omega)]
  | succ d ih =>
    intro i b hd hi hb
    have hlt : i < s.size := by omega
    have key : ∀ b' : Bool, b' = (b && @decide (isSmall (bt s (i : Int)) ∨ 0 < i ∧ 48 ≤ bt s (i : Int) ∧ bt s (i : Int) ≤ 57) (Classical.propDecidable _)) → Ev (fun k => quaerelaw1_SignNames.l0 k s b' ((i + 1 : Nat) : Int)) true := by
      intro b' hb'
      refine ih (i + 1) b' (by omega) (by omega) ?_
      rw [hb', hb]
      rw [Bool.eq_iff_iff]
      simp only [Bool.and_eq_true, decide_eq_true_eq]
      constructor
      · rintro ⟨⟨a1, a2, a3⟩, a4⟩
        refine ⟨a1, fun _ => ?_, fun j hj => ?_⟩
        · rcases Nat.eq_zero_or_pos i with rfl | hp
          · rcases a4 with a4 | a4
            · exact a4
            · omega
          · exact a2 hp
        · rcases Nat.lt_or_ge j i with h1 | h1
          · exact a3 j h1
          · obtain rfl : j = i := by omega
            rcases a4 with a4 | a4
            · exact .inl a4
            · exact .inr a4.2
      · rintro ⟨a1, a2, a3⟩
        refine ⟨⟨a1, fun _ => a2 (by omega), fun j hj => a3 j (by omega)⟩, ?_⟩
        rcases a3 i (by omega) with h | h
        · exact .inl h
        · rcases Nat.eq_zero_or_pos i with rfl | hp
          · exact .inl (a2 (by omega))
          · exact .inr ⟨hp, h⟩
    have step : ∀ b' : Bool, (∀ k, quaerelaw1_SignNames.l0 (k + 1) s b (i : Int) = quaerelaw1_SignNames.l0 k s b' (wrap64 ((i : Int) + 1))) → b' = (b && @decide (isSmall (bt s (i : Int)) ∨ 0 < i ∧ 48 ≤ bt s (i : Int) ∧ bt s (i : Int) ≤ 57) (Classical.propDecidable _)) → Ev (fun k => quaerelaw1_SignNames.l0 k s b (i : Int)) true := by
      intro b' h1 h2
      refine Ev.step (f := fun k => quaerelaw1_SignNames.l0 k s b' ((i + 1 : Nat) : Int)) (fun k => ?_) (key b' h2)
      rw [h1, wrap_nat i (by omega)]
    have h0i : 0 ≤ (i : Int) := by omega
    have hii : (i : Int) < (s.size : Int) := by omega
    cases b with
    | false =>
      refine step false (fun k => ?_) (by simp)
      simp only [quaerelaw1_SignNames.l0]
      rw [if_pos hii, if_pos h0i]
      by_cases c1 : bt s (i : Int) ≥ 97
      · rw [if_pos c1, if_neg (by decide)]
      · rw [if_neg c1, if_neg (by decide)]
    | true =>
      by_cases c1 : bt s (i : Int) ≥ 97
      · by_cases c2 : bt s (i : Int) ≤ 122
        · refine step true (fun k => ?_) ?_
          · simp only [quaerelaw1_SignNames.l0]
            rw [if_pos hii, if_pos h0i, if_pos c1, if_pos trivial, if_pos c2]
          · symm
            simp only [Bool.true_and, decide_eq_true_eq]
            exact .inl ⟨c1, c2⟩
        · refine step false (fun k => ?_) ?_
          · simp only [quaerelaw1_SignNames.l0]
            rw [if_pos hii, if_pos h0i, if_pos c1, if_pos trivial, if_neg c2]
            by_cases c3 : (i : Int) > 0
            · rw [if_pos c3, if_pos (by omega)]
              have : decide (bt s (i : Int) ≤ 57) = false := by simp; omega
              rw [this]
            · rw [if_neg c3]
          · symm
            simp only [Bool.true_and, decide_eq_false_iff_not]
            rintro (h | h)
            · exact c2 h.2
            · omega
      · by_cases c3 : (i : Int) > 0
        · by_cases c4 : bt s (i : Int) ≥ 48
          · refine step (decide (bt s (i : Int) ≤ 57)) (fun k => ?_) ?_
            · simp only [quaerelaw1_SignNames.l0]
              rw [if_pos hii, if_pos h0i, if_neg c1, if_pos trivial, if_pos c3, if_pos c4]
            · rw [Bool.true_and, decide_eq_decide]
              constructor
              · intro h
                exact .inr ⟨by omega, by omega, h⟩
              · rintro (h | h)
                · exact absurd h.1 c1
                · exact h.2.2
          · refine step false (fun k => ?_) ?_
            · simp only [quaerelaw1_SignNames.l0]
              rw [if_pos hii, if_pos h0i, if_neg c1, if_pos trivial, if_pos c3, if_neg c4]
            · symm
              simp only [Bool.true_and, decide_eq_false_iff_not]
              rintro (h | h)
              · exact c1 h.1
              · omega
        · refine step false (fun k => ?_) ?_
          · simp only [quaerelaw1_SignNames.l0]
            rw [if_pos hii, if_pos h0i, if_neg c1, if_pos trivial, if_neg c3]
          · symm
            simp only [Bool.true_and, decide_eq_false_iff_not]
            rintro (h | h)
            · exact c1 h.1
            · omega

theorem quaerelaw1_SignNames.pure : quaerelaw1_SignNames.Pure := by
  classical
  intro s hs
  refine Ev.get (g := fun k => quaerelaw1_SignNames.f k s) ?_
  unfold quaerelaw1_SignNames.f
  refine Ev.bind awake_ev (Ev.if_pos rfl ?_)
  have go : ∀ b : Bool, b = decide (1 ≤ s.size ∧ s.size ≤ 8) → Ev (fun k => quaerelaw1_SignNames.j0 k s b) true := by
    intro b hb
    have h := names_loop s hs (1 ≤ s.size ∧ s.size ≤ 8) (fun b hb => by
      rw [hb, decide_eq_decide]
      unfold NameOk
      constructor
      · rintro ⟨⟨a1, a2⟩, a3, a4⟩
        exact ⟨a1, a2, a3 (by omega), a4⟩
      · rintro ⟨a1, a2, a3, a4⟩
        exact ⟨⟨a1, a2⟩, fun _ => a3, a4⟩) s.size 0 b (by omega) (by omega) (by
      rw [hb, decide_eq_decide]
      constructor
      · intro h
        exact ⟨h, fun h => by omega, fun j hj => by omega⟩
      · intro h
        exact h.1)
    refine Ev.step (fun k => ?_) h
    simp only [quaerelaw1_SignNames.j0]
    rfl
  by_cases h1 : (s.size : Int) ≥ 1
  · refine Ev.if_pos h1 (go _ ?_)
    rw [decide_eq_decide]
    omega
  · refine Ev.if_neg h1 (go _ ?_)
    symm
    simp
    omega
end Go.Proofs.YtmgombdimppnpaaDoor.PS
