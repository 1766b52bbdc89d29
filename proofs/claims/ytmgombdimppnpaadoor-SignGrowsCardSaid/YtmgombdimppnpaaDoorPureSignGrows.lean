/- SignGrows answers true for every names and kinds: symbols that are added one by one stand in their row, and are found by their names. No conditions. -/
import Derived.Test.YtmgombdimppnpaaDoorWantSignGrows
import Derived.Test.YtmgombdimppnpaaDoorSignMore
import Derived.Test.YtmgombdimppnpaaDoorPSx0
import Derived.Test.YtmgombdimppnpaaDoorPSx2
import Derived.Test.YtmgombdimppnpaaDoorPSx3
import Derived.Test.YtmgombdimppnpaaDoorPSx4
import Derived.Test.YtmgombdimppnpaaDoorPSx5
import Derived.Test.YtmgombdimppnpaaDoorPSx7
namespace Go.Proofs.YtmgombdimppnpaaDoor.PS
open Go Go.RowKit Go.Proofs.YtmgombdimppnpaaDoorW.PrintWords Go.Proofs.YtmgombdimppnpaaDoorW.PrintLast Go.Proofs.YtmgombdimppnpaaDoor
set_option linter.unusedVariables false
theorem findFrom_append (s : ByteArray) (x : S33) : ∀ (l : List S33) (i : Nat), findFrom s (l ++ [x]) i = if findFrom s l i = -1 then (if x.f0.toList = s.toList then ((i + l.length : Nat) : Int) else -1) else findFrom s l i := by
  intro l
  induction l with
  | nil => intro i; simp [findFrom]
  | cons y l ih =>
    intro i
    have e1 : ∀ r : List S33, findFrom s (y :: r) i = if y.f0.toList = s.toList then (i : Int) else findFrom s r (i + 1) := fun r => rfl
    rw [List.cons_append]
    by_cases h : y.f0.toList = s.toList
    · have e2 : ∀ r : List S33, findFrom s (y :: r) i = (i : Int) := fun r => by rw [e1, if_pos h]
      rw [e2, e2, if_neg (by omega)]
    · have e2 : ∀ r : List S33, findFrom s (y :: r) i = findFrom s r (i + 1) := fun r => by rw [e1, if_neg h]
      rw [e2, e2, ih]
      have e3 : i + 1 + l.length = i + (y :: l).length := by simp only [List.length_cons]; omega
      rw [e3]
theorem findFrom_ge (s : ByteArray) : ∀ (l : List S33) (i : Nat), findFrom s l i = -1 ∨ (i : Int) ≤ findFrom s l i := by
  intro l
  induction l with
  | nil => intro i; exact .inl rfl
  | cons y l ih =>
    intro i
    simp only [findFrom]
    split
    · exact .inr (by omega)
    · rcases ih (i + 1) with h | h
      · exact .inl h
      · exact .inr (by omega)
theorem getD_snoc_lt (l : List S33) (x : S33) (j : Nat) (h : j < l.length) : (l ++ [x]).getD j z33 = l.getD j z33 := by
  simp [List.getD_eq_getElem?_getD, List.getElem?_append_left h]
theorem getD_snoc_eq (l : List S33) (x : S33) : (l ++ [x]).getD l.length z33 = x := by
  simp [List.getD_eq_getElem?_getD]
theorem sign_snoc {l : List S33} {x : S33} (h : SignOk l) (hx : SymOk x) (hf : ¬ findV l x.f0 ≥ 0) (hl : ¬ l.length = 20) : SignOk (l ++ [x]) := by
  obtain ⟨h1, h2, h3, h4⟩ := h
  refine ⟨by simp, by simp; omega, ?_, fun j hj1 hj2 => ?_⟩
  · rw [getD_snoc_lt l x 0 (by omega)]
    exact h3
  · have hj2' : j < l.length + 1 := by simpa using hj2
    rcases Nat.lt_or_ge j l.length with hj | hj
    · unfold SymAt
      rw [getD_snoc_lt l x j hj]
      obtain ⟨a, b⟩ := h4 j hj1 hj
      refine ⟨a, ?_⟩
      unfold findV at b ⊢
      rw [findFrom_append, b, if_neg (by omega)]
    · obtain rfl : j = l.length := by omega
      unfold SymAt
      rw [getD_snoc_eq]
      refine ⟨hx, ?_⟩
      unfold findV at hf ⊢
      have hm : findFrom x.f0 l 0 = -1 := by
        rcases findFrom_ge x.f0 l 0 with h | h
        · exact h
        · exact absurd h hf
      rw [findFrom_append, if_pos hm, if_pos rfl]
      simp

/-- The signature and the names that were taken, side by side. -/
def Side (sig : List S33) (there : List ByteArray) : Prop := SignOk sig ∧ sig.length = there.length + 1 ∧ ∀ j, j < there.length → (sig.getD (j + 1) z33).f0 = there.getD j ByteArray.empty
theorem rd_name (l : List ByteArray) (i : Nat) : rdOf ByteArray.empty l (i : Int) = l.getD i ByteArray.empty := by simp [rdOf]

theorem grows_last (sig : List S33) (there : List ByteArray) (h : Side sig there) : ∀ (d i : Nat), there.length - i = d → i ≤ there.length → Ev (fun k => quaerelaw1_SignGrows.l1 k sig there (i : Int)) true := by
  obtain ⟨hs, hlen, hn⟩ := h
  have hl := hs.2.1
  intro d
  induction d with
  | zero =>
    intro i hd hi
    refine Ev.step (f := fun _ => some true) (fun k => ?_) (Ev.now _)
    simp only [quaerelaw1_SignGrows.l1]
    rw [if_neg (by omega)]
  | succ d ih =>
    intro i hd hi
    have hlt : i < there.length := by omega
    refine Ev.step (f := fun k => (sign_Find.f k sig (there.getD i ByteArray.empty)).bind fun b => if b.2 = 0 then (if b.1 = ((i + 1 : Nat) : Int) then (if 0 ≤ b.1 then (if b.1 < (sig.length : Int) then (if ((rd_T33 sig b.1).f0).toList = (there.getD i ByteArray.empty).toList then quaerelaw1_SignGrows.l1 k sig there ((i + 1 : Nat) : Int) else some false) else none) else none) else some false) else some false) (fun k => ?_) ?_
    · simp only [quaerelaw1_SignGrows.l1, quaerelaw0_Num.f, Option.bind_some]
      rw [if_pos (by omega), if_pos (by omega), rd_name, wrap_nat i (by omega)]
    · refine Ev.bind (Find_ev sig (there.getD i ByteArray.empty)) ?_
      have hF : FindV sig (there.getD i ByteArray.empty) = (((i + 1 : Nat) : Int), 0) := by
        unfold FindV
        rw [if_pos (signB_true.2 hs)]
        have := (hs.2.2.2 (i + 1) (by omega) (by omega)).2
        rw [hn i hlt] at this
        rw [this]
      rw [hF]
      refine Ev.if_pos rfl (Ev.if_pos rfl (Ev.if_pos (show (0 : Int) ≤ ((i + 1 : Nat) : Int) by omega) (Ev.if_pos (show ((i + 1 : Nat) : Int) < (sig.length : Int) by omega) (Ev.if_pos ?_ (ih (i + 1) (by omega) (by omega))))))
      rw [rd_sym, hn i hlt]

theorem grows_end (sig : List S33) (there : List ByteArray) (h : Side sig there) : Ev (fun k => if (sig.length : Int) = (wrap64 ((there.length : Int) + 1)) then (if (sig.length : Int) > 20 then (quaerelaw1_SignGrows.j4 k sig there true) else ((sign_May.f k sig).bind fun t234 => (quaerelaw1_SignGrows.j4 k sig there (!t234)))) else (quaerelaw1_SignGrows.j4 k sig there true)) true := by
  have hl := h.1.2.1
  have h1 := h.2.1
  refine Ev.if_pos (by rw [wrap_nat _ (by omega)]; omega) (Ev.if_neg (by omega) (Ev.bind (may_ev sig) ?_))
  rw [signB_true.2 h.1]
  refine Ev.step (fun k => ?_) (grows_last sig there h there.length 0 rfl (by omega))
  simp only [quaerelaw1_SignGrows.j4]
  rw [if_neg (by decide)]
  rfl

theorem grows_loop (names : List ByteArray) (kinds : List Int) (hn : names.length ≤ 9223372036854775000) : ∀ (d i : Nat) (sig : List S33) (there : List ByteArray), names.length - i = d → i ≤ names.length → Side sig there → Ev (fun k => quaerelaw1_SignGrows.l0 k names kinds sig there (i : Int)) true := by
  intro d
  induction d with
  | zero =>
    intro i sig there hd hi hS
    refine Ev.step (f := fun k => quaerelaw1_SignGrows.j1 k names kinds sig there (i : Int) false) (fun k => ?_) (Ev.step (fun k => ?_) (grows_end sig there hS))
    · simp only [quaerelaw1_SignGrows.l0]
      rw [if_neg (by omega)]
    · simp only [quaerelaw1_SignGrows.j1]
      rw [if_neg (by decide)]
  | succ d ih =>
    intro i sig there hd hi hS
    have hlt : i < names.length := by omega
    have hl := hS.1.2.1
    have h1 := hS.2.1
    refine Ev.step (f := fun k => quaerelaw1_SignGrows.j1 k names kinds sig there (i : Int) (decide ((i : Int) < 30))) (fun k => ?_) ?_
    · simp only [quaerelaw1_SignGrows.l0]
      rw [if_pos (by omega)]
    by_cases h30 : (i : Int) < 30
    · have hd30 : decide ((i : Int) < 30) = true := by simpa using h30
      rw [hd30]
      -- with whatever kind
      have hj3 : ∀ kind : Int, Ev (fun k => quaerelaw1_SignGrows.j3 k names kinds sig there (i : Int) kind) true := by
        intro kind
        refine Ev.step (f := fun k => (sign_Add.f k sig (names.getD i ByteArray.empty) kind (Go.bits .and .i64 (i : Int) 3) (wrap64 (1 + (Go.bits .and .i64 (i : Int) 7)))).bind fun b => if b.2 = 0 then quaerelaw1_SignGrows.l0 k names kinds b.1 (there ++ [names.getD i ByteArray.empty]) ((i + 1 : Nat) : Int) else quaerelaw1_SignGrows.l0 k names kinds sig there ((i + 1 : Nat) : Int)) (fun k => ?_) ?_
        · simp only [quaerelaw1_SignGrows.j3, quaerelaw0_Num.f, Option.bind_some]
          rw [if_pos (by omega), if_pos (by omega), rd_name, wrap_nat i (by omega)]
          have hh : there.length < 8796093022208 := by omega
          simp only [hh, if_true]
        · refine Ev.bind (Add_ev sig ⟨names.getD i ByteArray.empty, kind, Go.bits .and .i64 (i : Int) 3, wrap64 (1 + (Go.bits .and .i64 (i : Int) 7))⟩) ?_
          unfold AddV
          split
          · rename_i hc
            split
            · exact Ev.if_neg (by simp) (ih (i + 1) sig there (by omega) (by omega) hS)
            · rename_i hf
              split
              · exact Ev.if_neg (by simp) (ih (i + 1) sig there (by omega) (by omega) hS)
              · rename_i h20
                refine Ev.if_pos rfl (ih (i + 1) _ _ (by omega) (by omega) ⟨sign_snoc hS.1 (by simpa [symB] using hc.2) hf h20, by simp; omega, fun j hj => ?_⟩)
                have hj' : j < there.length + 1 := by simpa using hj
                rcases Nat.lt_or_ge j there.length with hj1 | hj1
                · rw [getD_snoc_lt _ _ _ (by omega), hS.2.2 j hj1]
                  simp [List.getD_eq_getElem?_getD, List.getElem?_append_left hj1]
                · obtain rfl : j = there.length := by omega
                  rw [← h1, getD_snoc_eq]
                  simp [List.getD_eq_getElem?_getD]
          · exact Ev.if_neg (by simp) (ih (i + 1) sig there (by omega) (by omega) hS)
      have hj2 : ∀ b : Bool, Ev (fun k => quaerelaw1_SignGrows.j2 k names kinds sig there (i : Int) 1 b) true := by
        intro b
        cases b with
        | true => exact Ev.step (fun k => by simp only [quaerelaw1_SignGrows.j2]; rw [if_pos trivial]) (hj3 0)
        | false => exact Ev.step (fun k => by simp only [quaerelaw1_SignGrows.j2]; rw [if_neg (by decide)]) (hj3 1)
      by_cases hk : (i : Int) < (kinds.length : Int)
      · refine Ev.step (fun k => ?_) (hj2 ((Go.bits .and .i64 (rd kinds (i : Int)) 1) == 1))
        simp only [quaerelaw1_SignGrows.j1]
        rw [if_pos trivial, if_pos hk, if_pos (by omega)]
      · refine Ev.step (fun k => ?_) (hj2 false)
        simp only [quaerelaw1_SignGrows.j1]
        rw [if_pos trivial, if_neg hk]
    · have hd30 : decide ((i : Int) < 30) = false := by simpa using h30
      rw [hd30]
      refine Ev.step (fun k => ?_) (grows_end sig there hS)
      simp only [quaerelaw1_SignGrows.j1]
      rw [if_neg (by decide)]

theorem quaerelaw1_SignGrows.pure : quaerelaw1_SignGrows.Pure := by
  intro names kinds hn _
  refine Ev.get (g := fun k => quaerelaw1_SignGrows.f k names kinds) ?_
  unfold quaerelaw1_SignGrows.f
  refine Ev.bind awake_ev (Ev.if_pos rfl ?_)
  have hbase : quaerelaw1_base.f = some [⟨⟨#[61]⟩, 0, 2, 1⟩] := rfl
  simp only [hbase, Option.bind_some]
  refine grows_loop names kinds (by have := hn.1; omega) names.length 0 _ _ rfl (by omega) ⟨⟨by simp, by simp, ⟨?_, rfl, rfl, rfl⟩, fun j h1 h2 => by simp at h2; omega⟩, rfl, fun j hj => by simp at hj⟩
  show (⟨#[61]⟩ : ByteArray).toList = [61]
  rw [toList_data]
end Go.Proofs.YtmgombdimppnpaaDoor.PS
