/- The unify laws' own first look (awake) answers true. -/
import Derived.Test.YtaegdhpcnpojnaaDoorIsRow
import Derived.Test.YtaegdhpcnpojnaaDoorUniPl
import Derived.Test.YtaegdhpcnpojnaaDoorPUx0
import Derived.Test.YtaegdhpcnpojnaaDoorPUx4
import Derived.Test.YtaegdhpcnpojnaaDoorPUx5
import Derived.Test.YtaegdhpcnpojnaaDoorPUx12
import Derived.Test.YtaegdhpcnpojnaaDoorPUx15
namespace Go.Proofs.YtaegdhpcnpojnaaDoor.PU
open Go Go.RowKit Go.Proofs.YtaegdhpcnpojnaaDoorW.PrintWords Go.Proofs.YtaegdhpcnpojnaaDoorW.PrintLast Go.Proofs.YtaegdhpcnpojnaaDoor
set_option linter.unusedVariables false
set_option linter.unusedSimpArgs false
def words4 : List S66 := (quaerelaw4_words.f).getD []
theorem words4_eq : quaerelaw4_words.f = some words4 := by kernel_rfl
open Classical in
theorem isRow_at {l : List S66} {r : List Int} {b : Bool} (k : Nat) (h : term_IsRow.f k l r = some b) : decide (IsRow l r) = b :=
  Ev.uniq (isRow_ev l r) (Ev.at_ (fun k => term_IsRow.mono _ _ k) k h)
open Classical in
theorem row4 (r : List Int) (h : term_IsRow.f 60 words4 r = some true) : IsRow words4 r := of_decide_eq_true (isRow_at 60 h)
open Classical in
theorem row4_no (r : List Int) (h : term_IsRow.f 60 words4 r = some false) : ¬ IsRow words4 r := of_decide_eq_false (isRow_at 60 h)
theorem isN4 {r : List Int} {n : Nat} (h : skipN (arS words4) r n = some []) : isN (arS words4) n r := h
def ev4 (k : Nat) (a b : List Int) : Option (Option (List S41)) := (sameF words4 k st0 (pairsV words4 [] (a, 0) (b, 0))).bind fun q => match q with | none => some none | some σ => (listF σ k 24).map some
theorem ev4_some {a b : List Int} {n k : Nat} {L : List S41} (ha : isN (arS words4) n a) (hb : isN (arS words4) n b) (hra : IsRow words4 a) (hrb : IsRow words4 b) (h : ev4 k a b = some (some L)) : unifyV words4 a b = (L, true, 0) := by
  unfold ev4 at h
  obtain ⟨q, h1, h2⟩ := Option.bind_eq_some_iff.1 h
  have h3 := unifyV_same ha hb hra hrb h1
  cases q with
  | none => cases h2
  | some σ =>
    obtain ⟨L', h4, h5⟩ := Option.map_eq_some_iff.1 h2
    obtain rfl := Option.some.inj h5
    exact h3 k L' h4
theorem ev4_none {a b : List Int} {n k : Nat} (ha : isN (arS words4) n a) (hb : isN (arS words4) n b) (hra : IsRow words4 a) (hrb : IsRow words4 b) (h : ev4 k a b = some none) : unifyV words4 a b = ([], false, 0) := by
  unfold ev4 at h
  obtain ⟨q, h1, h2⟩ := Option.bind_eq_some_iff.1 h
  have h3 := unifyV_same ha hb hra hrb h1
  cases q with
  | none => exact h3
  | some σ =>
    obtain ⟨L', h4, h5⟩ := Option.map_eq_some_iff.1 h2
    cases h5
theorem sameBinds_loop (s : List S41) (hs : s.length ≤ 1000) (hb : ∀ b ∈ s, b.f1.length ≤ 48) : ∀ (d i : Nat), s.length - i = d → i ≤ s.length → Ev (fun k => quaerelaw0_SameBinds.l0 k s s (i : Int)) true := by
  intro d
  induction d with
  | zero =>
    intro i hd hi
    exact Ev.step (fun k => rfl) (Ev.if_neg (by omega) (Ev.some_ rfl))
  | succ d ih =>
    intro i hd hi
    refine Ev.step (fun k => rfl) (Ev.if_pos (by omega) (Ev.if_pos (by omega) (Ev.if_pos (by omega) (Ev.if_pos rfl ?_))))
    have hm : (rd_T41 s (i : Int)).f1.length ≤ 48 := by
      unfold rd_T41
      rw [Int.toNat_natCast, List.getD_eq_getElem?_getD, List.getElem?_eq_getElem (by omega)]
      exact hb _ (List.getElem_mem _)
    refine Ev.bind (sameInts_ev _ _ (by omega)) ?_
    refine Ev.if_pos (by simp) ?_
    rw [wrap_nat i (by omega)]
    exact ih (i + 1) (by omega) (by omega)
theorem sameBinds_ev (s : List S41) (hs : s.length ≤ 1000) (hb : ∀ b ∈ s, b.f1.length ≤ 48) : Ev (fun k => quaerelaw0_SameBinds.f k s s) true := by
  unfold quaerelaw0_SameBinds.f
  exact Ev.if_pos rfl (sameBinds_loop s hs hb s.length 0 rfl (Nat.zero_le _))
theorem awake4_1 : unifyV words4 [4, -1, -2] [4, 3, -2, 1] = ([⟨0, [3, 1]⟩, ⟨1, [1]⟩], true, 0) :=
  ev4_some (n := 1) (k := 60) (isN4 (by kernel_rfl)) (isN4 (by kernel_rfl)) (row4 _ (by kernel_rfl)) (row4 _ (by kernel_rfl)) (by kernel_rfl)
theorem awake4_2 : unifyV words4 [-4] [-2] = ([⟨3, [-2]⟩], true, 0) :=
  ev4_some (n := 1) (k := 60) (isN4 (by kernel_rfl)) (isN4 (by kernel_rfl)) (row4 _ (by kernel_rfl)) (row4 _ (by kernel_rfl)) (by kernel_rfl)
theorem awake4_3 : unifyV words4 [-1] [3, -1] = ([], false, 0) :=
  ev4_none (n := 1) (k := 60) (isN4 (by kernel_rfl)) (isN4 (by kernel_rfl)) (row4 _ (by kernel_rfl)) (row4 _ (by kernel_rfl)) (by kernel_rfl)
theorem awake4_4 : unifyV words4 [1] [2] = ([], false, 0) :=
  ev4_none (n := 1) (k := 60) (isN4 (by kernel_rfl)) (isN4 (by kernel_rfl)) (row4 _ (by kernel_rfl)) (row4 _ (by kernel_rfl)) (by kernel_rfl)
theorem awake4_5 : unifyV words4 [3] [1] = ([], false, 400) := unifyV_form (fun h => row4_no _ (by kernel_rfl) h.1)
theorem awake4_b1 : quaerelaw0_SameBinds.f 60 ([⟨0, [3, 1]⟩, ⟨1, [1]⟩] : List S41) ([⟨0, [3, 1]⟩, ⟨1, [1]⟩] : List S41) = some true := by kernel_rfl
theorem awake4_b2 : quaerelaw0_SameBinds.f 60 ([⟨3, [-2]⟩] : List S41) ([⟨3, [-2]⟩] : List S41) = some true := by kernel_rfl
theorem awake4_ev : Ev (fun k => quaerelaw4_awake.f k) true := by
  refine Ev.at_ (fun k => quaerelaw4_awake.mono k) 60 ?_
  unfold quaerelaw4_awake.f
  simp only [words4_eq, Option.bind_some, unify_Unify.f, awake4_1, awake4_2, awake4_3, awake4_4, awake4_5, quaerelaw0_Num.f, awake4_b1, awake4_b2]
  simp
end Go.Proofs.YtaegdhpcnpojnaaDoor.PU
