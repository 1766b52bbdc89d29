/- What makes two rows the same, plainly: a store of terms that stand for variables, solved; the most general one; that it is one alone. Unify's own loops, plainly: what they compute with so many rounds, and that they keep what makes two rows the same. The document's own unification, plainly: what its walk, inside, pair, all and full compute with so many rounds, and that they keep what makes two rows the same. What Unify answers, plainly: the most general binds; both the program's and the document's rounds come to it. What Unify answers, reckoned by rounds; its binds are few and short. -/
import Derived.Test.YteffiodbflmfkaaDoorBits
import Derived.Test.YteffiodbflmfkaaDoorPPx0
namespace Go.Proofs.YteffiodbflmfkaaDoor.PP
open Go Go.RowKit Go.Proofs.YteffiodbflmfkaaDoorW.PrintWords Go.Proofs.YteffiodbflmfkaaDoorW.PrintLast Go.Proofs.YteffiodbflmfkaaDoor
set_option linter.unusedVariables false
set_option linter.unusedSimpArgs false
section
variable {ar : Int → Option Nat}
/-- Variables take no arguments. -/
def VarAr (ar : Int → Option Nat) : Prop := ∀ c, c < 0 → ar c = none ∨ ar c = some 0
def GoodA (ar : Int → Option Nat) (θ : Int → List Int) : Prop := ∀ c, c < 0 → ar c ≠ none → isN ar 1 (θ c)
theorem isN_var (hv : VarAr ar) {c : Int} (h : c < 0) (ha : ar c ≠ none) : isN ar 1 [c] := isN_cons.2 ⟨0, (hv c h).resolve_left ha, isN_nil⟩
theorem isN_var_eq (hv : VarAr ar) {c : Int} {r : List Int} (h : c < 0) (hn : isN ar 1 (c :: r)) : r = [] := by
 obtain ⟨m, h1, h2⟩ := isN_cons.1 hn
 rcases hv c h with e | e
 ·rw [e] at h1; cases h1
 ·rw [e] at h1
  obtain rfl := Option.some.inj h1
  exact isN_zero h2
theorem isN_ar {n : Nat} {r : List Int} (h : isN ar n r) {c : Int} (hc : c ∈ r) : ar c ≠ none := by
 obtain ⟨m, hm⟩ := isN_mem h c hc
 rw [hm]
 simp
theorem subA_isN (hv : VarAr ar) {θ : Int → List Int} (hg : GoodA ar θ) : ∀ (r : List Int) (n : Nat), isN ar n r → isN ar n (subV θ r) := by
 intro r
 induction r with
 | nil => intro n h; exact h
 | cons c r ih =>
  intro n h
  cases n with
  | zero => have := isN_zero h; cases this
  | succ n =>
   obtain ⟨m, h1, h2⟩ := isN_cons.1 h
   have h3 := ih _ h2
   simp only [subV]
   by_cases hc : 0 ≤ c
   ·rw [subC_pos θ hc]
    exact isN_cons.2 ⟨m, h1, h3⟩
   ·have hm : m = 0 := by
     rcases hv c (by omega) with e | e
     ·rw [e] at h1; cases h1
     ·rw [e] at h1; exact (Option.some.inj h1).symm
    subst hm
    rw [subC_neg θ (by omega), Nat.add_comm n 1]
    exact isN_append (hg c (by omega) (by rw [h1]; simp)) h3
theorem subC_len {θ : Int → List Int} (hg : GoodA ar θ) {c : Int} (h : ar c ≠ none) : 1 ≤ (subC θ c).length := by
 by_cases hc : 0 ≤ c
 ·rw [subC_pos θ hc]; simp
 ·rw [subC_neg θ (by omega)]
  exact isN_pos (hg c (by omega) h)
theorem sub_len {θ : Int → List Int} (hg : GoodA ar θ) : ∀ (r : List Int), (∀ c ∈ r, ar c ≠ none) → r.length ≤ (subV θ r).length := by
 intro r
 induction r with
 | nil => intro _; simp
 | cons c r ih =>
  intro h
  have h1 := ih (fun c hc => h c (List.mem_cons_of_mem _ hc))
  have h2 := subC_len hg (h c (List.mem_cons_self ..))
  simp only [subV, List.length_append, List.length_cons]
  omega
theorem sub_part {θ : Int → List Int} {r : List Int} {c : Int} (hc : c ∈ r) : (subC θ c).length ≤ (subV θ r).length := by
 obtain ⟨p, q, rfl⟩ := List.append_of_mem hc
 rw [subV_append]
 simp only [subV, List.length_append]
 omega
theorem sub_mem {θ : Int → List Int} {r : List Int} {d : Int} : d ∈ subV θ r ↔ ∃ c ∈ r, d ∈ subC θ c := by
 induction r with
 | nil => simp [subV]
 | cons c r ih => simp only [subV, List.mem_append, ih, List.mem_cons, exists_eq_or_imp]
theorem sub_id {θ : Int → List Int} : ∀ (r : List Int), (∀ c ∈ r, c < 0 → θ c = [c]) → subV θ r = r := by
 intro r
 induction r with
 | nil => intro _; rfl
 | cons c r ih =>
  intro h
  simp only [subV]
  rw [ih (fun c hc => h c (List.mem_cons_of_mem _ hc))]
  by_cases hc : 0 ≤ c
  ·rw [subC_pos θ hc]; rfl
  ·rw [subC_neg θ (by omega), h c (List.mem_cons_self ..) (by omega)]; rfl
theorem sub_one {θ : Int → List Int} (c : Int) : subV θ [c] = subC θ c := by simp [subV]
/-- A variable and a term within which it stands, and which is more than it, are never made the same. -/
theorem occurs {θ : Int → List Int} (hg : GoodA ar θ) {c : Int} {y : List Int} (hc : c < 0) (hy : ∀ d ∈ y, ar d ≠ none) (hm : c ∈ y) (hl : 2 ≤ y.length) : θ c ≠ subV θ y := by
 intro h
 obtain ⟨p, q, rfl⟩ := List.append_of_mem hm
 have e := congrArg List.length h
 rw [subV_append] at e
 simp only [subV, List.length_append] at e
 rw [subC_neg θ hc] at e
 have h1 := sub_len hg p (fun d hd => hy d (by simp [hd]))
 have h2 := sub_len hg q (fun d hd => hy d (by simp [hd]))
 simp only [List.length_append, List.length_cons] at hl
 omega

/-! the store -/
def Resp (θ τ : Int → List Int) : Prop := ∀ c, c < 0 → τ c ≠ [] → θ c = subV θ (τ c)
structure Solved (ar : Int → Option Nat) (τ σ : Int → List Int) : Prop where
 good : GoodA ar σ
 resp : Resp σ τ
 free : ∀ c, c < 0 → τ c = [] → σ c = [c]
 rng : ∀ c, c < 0 → ar c ≠ none → ∀ d ∈ σ c, d < 0 → τ d = [] ∧ ar d ≠ none
 term : ∀ c, c < 0 → τ c ≠ [] → ar c ≠ none ∧ isN ar 1 (τ c)
 down : ∀ c, c < 0 → ∀ d, d < 0 → τ c = [d] → c < d
theorem solved_init (hv : VarAr ar) : Solved ar (fun _ => []) (fun c => [c]) :=
 ⟨fun c hc ha => isN_var hv hc ha, fun c _ h => absurd rfl h, fun _ _ _ => rfl, fun c hc ha d hd _ => by rw [List.mem_singleton] at hd; subst hd; exact ⟨rfl, ha⟩, fun c _ h => absurd rfl h, fun c _ d _ h => by cases h⟩
/-- What holds of a variable if it holds of those in what stands for it holds of each. -/
theorem Solved.induct {τ σ : Int → List Int} (hv : VarAr ar) (h : Solved ar τ σ) {P : Int → Prop} (step : ∀ c, c < 0 → ar c ≠ none → (τ c ≠ [] → ∀ d ∈ τ c, d < 0 → P d) → P c) : ∀ c, c < 0 → ar c ≠ none → P c := by
 have key : ∀ (n : Nat) (m : Nat) (c : Int), c < 0 → ar c ≠ none → (σ c).length = n → c.natAbs = m → P c := by
  intro n
  induction n using Nat.strongRecOn with
  | _ n ihn =>
   intro m
   induction m using Nat.strongRecOn with
   | _ m ihm =>
    intro c hc ha hn hm
    refine step c hc ha (fun hb d hd hd0 => ?_)
    obtain ⟨_, ht⟩ := h.term c hc hb
    have hda := isN_ar ht hd
    have hr := h.resp c hc hb
    have hle := sub_part (θ := σ) hd
    rw [subC_neg σ hd0, ← hr] at hle
    obtain ⟨x, r, k, e, hx, hxr⟩ := isN_one ht
    by_cases hx0 : x < 0
    ·have : r = [] := isN_var_eq hv hx0 (by rw [← e]; exact ht)
     subst this
     rw [e, List.mem_singleton] at hd
     subst hd
     have hdn := h.down c hc d hx0 e
     rcases Nat.lt_or_ge (σ d).length (σ c).length with hlt | hge
     ·exact ihn _ (by omega) _ d hd0 hda rfl rfl
     ·exact ihm _ (by omega) d hd0 hda (by omega) rfl
    ·have hd' : d ∈ r := by
      rw [e] at hd
      rcases List.mem_cons.1 hd with e' | hd
      ·omega
      ·exact hd
     have h2 := sub_part (θ := σ) hd'
     rw [subC_neg σ hd0] at h2
     have h3 : (σ c).length = 1 + (subV σ r).length := by
      rw [hr, e]
      simp only [subV, List.length_append]
      rw [subC_pos σ (by omega)]
      rfl
     exact ihn _ (by omega) _ d hd0 hda rfl rfl
 intro c hc ha
 exact key _ _ c hc ha rfl rfl
theorem Solved.factor {τ σ θ : Int → List Int} (hv : VarAr ar) (h : Solved ar τ σ) (hr : Resp θ τ) : ∀ c, c < 0 → ar c ≠ none → subV θ (σ c) = θ c := by
 refine h.induct hv (fun c hc ha ih => ?_)
 by_cases hb : τ c = []
 ·rw [h.free c hc hb, sub_one, subC_neg θ hc]
 ·rw [h.resp c hc hb, subV_sub, hr c hc hb]
  exact subV_congr _ (fun d hd hd0 => ih hb d hd hd0)
theorem Solved.factorV {τ σ θ : Int → List Int} (hv : VarAr ar) (h : Solved ar τ σ) (hr : Resp θ τ) {r : List Int} (ha : ∀ c ∈ r, ar c ≠ none) : subV θ (subV σ r) = subV θ r := by
 rw [subV_sub]
 exact subV_congr r (fun c hc hc0 => h.factor hv hr c hc0 (ha c hc))
/-- A store with one variable more. -/
def upd (τ : Int → List Int) (c : Int) (y : List Int) : Int → List Int := fun d => if d = c then y else τ d
def one1 (c : Int) (t : List Int) : Int → List Int := fun d => if d = c then t else [d]
theorem upd_same (τ : Int → List Int) (c : Int) (y : List Int) : upd τ c y c = y := if_pos rfl
theorem upd_other (τ : Int → List Int) {c d : Int} (y : List Int) (h : d ≠ c) : upd τ c y d = τ d := if_neg h
theorem one1_away {c : Int} {t : List Int} {r : List Int} (h : c ∉ r) : subV (one1 c t) r = r :=
 sub_id r (fun d hd _ => if_neg (fun e => h (by rw [← e]; exact hd)))
theorem Solved.bind {τ σ : Int → List Int} (hv : VarAr ar) (h : Solved ar τ σ) {c : Int} {y : List Int} (hc : c < 0) (ha : ar c ≠ none) (hf : τ c = []) (hy : isN ar 1 y) (hno : c ∉ subV σ y) (hd : ∀ d, d < 0 → y = [d] → c < d) :
  Solved ar (upd τ c y) (fun d => subV (one1 c (subV σ y)) (σ d)) := by
 have hyn := subA_isN hv h.good y 1 hy
 have g1 : GoodA ar (one1 c (subV σ y)) := by
  intro d hd0 hda
  unfold one1
  split
  ·exact hyn
  ·exact isN_var hv hd0 hda
 have hyne : y ≠ [] := by
  rintro rfl
  have := isN_pos hy
  simp at this
 have hrng : ∀ d ∈ subV σ y, d < 0 → τ d = [] ∧ ar d ≠ none := by
  intro d hd' hd0
  obtain ⟨e, he, hde⟩ := sub_mem.1 hd'
  have hea := isN_ar hy he
  by_cases he0 : 0 ≤ e
  ·rw [subC_pos σ he0, List.mem_singleton] at hde
   omega
  ·rw [subC_neg σ (by omega)] at hde
   exact h.rng e (by omega) hea d hde hd0
 refine ⟨fun d hd0 hda => subA_isN hv g1 _ 1 (h.good d hd0 hda), ?_, ?_, ?_, ?_, ?_⟩
 ·intro d hd0 hb
  by_cases e : d = c
  ·subst e
   rw [upd_same] at hb ⊢
   show subV (one1 d (subV σ y)) (σ d) = _
   rw [h.free d hc hf, sub_one, subC_neg _ hc]
   rw [← subV_sub, one1_away hno]
   exact if_pos rfl
  ·rw [upd_other τ y e] at hb ⊢
   show subV (one1 c (subV σ y)) (σ d) = _
   rw [h.resp d hd0 hb, subV_sub]
 ·intro d hd0 hb
  by_cases e : d = c
  ·subst e
   rw [upd_same] at hb
   exact absurd hb hyne
  ·rw [upd_other τ y e] at hb
   show subV (one1 c (subV σ y)) (σ d) = _
   rw [h.free d hd0 hb, sub_one, subC_neg _ hd0]
   exact if_neg e
 ·intro d hd0 hda e he he0
  obtain ⟨f, hfm, hef⟩ := sub_mem.1 he
  by_cases hf0 : 0 ≤ f
  ·rw [subC_pos _ hf0, List.mem_singleton] at hef
   omega
  ·rw [subC_neg _ (by omega)] at hef
   unfold one1 at hef
   by_cases efc : f = c
   ·rw [if_pos efc] at hef
    have := hrng e hef he0
    have hec : e ≠ c := fun k => hno (by rw [← k]; exact hef)
    rw [upd_other τ y hec]
    exact this
   ·rw [if_neg efc, List.mem_singleton] at hef
    subst hef
    rw [upd_other τ y efc]
    exact h.rng d hd0 hda e hfm he0
 ·intro d hd0 hb
  by_cases e : d = c
  ·subst e
   rw [upd_same]
   exact ⟨ha, hy⟩
  ·rw [upd_other τ y e] at hb ⊢
   exact h.term d hd0 hb
 ·intro d hd0 e he0 hde
  by_cases e1 : d = c
  ·subst e1
   rw [upd_same] at hde
   exact hd e he0 hde
  ·rw [upd_other τ y e1] at hde
   exact h.down d hd0 e he0 hde
theorem resp_bind {τ θ : Int → List Int} {c : Int} {y : List Int} (hc : c < 0) (hf : τ c = []) (hy : y ≠ []) : (Resp θ τ ∧ θ c = subV θ y) ↔ Resp θ (upd τ c y) := by
 constructor
 ·rintro ⟨h1, h2⟩ d hd hb
  by_cases e : d = c
  ·subst e
   rw [upd_same]
   exact h2
  ·rw [upd_other τ y e] at hb ⊢
   exact h1 d hd hb
 ·intro h
  refine ⟨fun d hd hb => ?_, ?_⟩
  ·have e : d ≠ c := by rintro rfl; exact hb hf
   have := h d hd (by rw [upd_other τ y e]; exact hb)
   rw [upd_other τ y e] at this
   exact this
  ·have := h c hc (by rw [upd_same]; exact hy)
   rw [upd_same] at this
   exact this
/-- A free variable that stands within a term, all put in, is never made the same as it. -/
theorem Solved.never {τ σ θ : Int → List Int} (hv : VarAr ar) (h : Solved ar τ σ) (hg : GoodA ar θ) (hr : Resp θ τ) {c : Int} {y : List Int} (hc : c < 0) (hy : isN ar 1 y) (hm : c ∈ subV σ y) (hl : 2 ≤ y.length) : θ c ≠ subV θ y := by
 intro e
 have hya : ∀ d ∈ y, ar d ≠ none := fun d hd => isN_ar hy hd
 rw [← h.factorV hv hr hya] at e
 have h1 := subA_isN hv h.good y 1 hy
 have h2 := sub_len h.good y hya
 exact occurs hg hc (fun d hd => isN_ar h1 hd) hm (by omega) e

/-! one alone -/
theorem Solved.canon {τ σ : Int → List Int} (hv : VarAr ar) (h : Solved ar τ σ) : ∀ c, c < 0 → ar c ≠ none → ∀ d, d < 0 → σ c = [d] → c ≤ d ∧ (τ c ≠ [] → c < d) := by
 refine h.induct hv (fun c hc ha ih d hd0 he => ?_)
 by_cases hb : τ c = []
 ·rw [h.free c hc hb] at he
  injection he with he
  exact ⟨by omega, fun k => absurd hb k⟩
 ·obtain ⟨_, ht⟩ := h.term c hc hb
  obtain ⟨x, r, k, e, hx, hxr⟩ := isN_one ht
  have hr := h.resp c hc hb
  by_cases hx0 : x < 0
  ·have : r = [] := isN_var_eq hv hx0 (by rw [← e]; exact ht)
   subst this
   have hdn := h.down c hc x hx0 e
   have hrx : σ c = σ x := by rw [hr, e, sub_one, subC_neg σ hx0]
   have := (ih hb x (by rw [e]; simp) hx0 d hd0 (by rw [← hrx]; exact he)).1
   exact ⟨by omega, fun _ => by omega⟩
  ·exfalso
   rw [hr, e] at he
   simp only [subV] at he
   rw [subC_pos σ (by omega)] at he
   injection he with he
   omega
theorem Solved.bound {τ σ : Int → List Int} (hv : VarAr ar) (h : Solved ar τ σ) {c : Int} (hc : c < 0) (ha : ar c ≠ none) : τ c ≠ [] ↔ σ c ≠ [c] := by
 constructor
 ·intro hb he
  have := (h.canon hv c hc ha c hc he).2 hb
  omega
 ·intro hne hb
  exact hne (h.free c hc hb)
/-! rows -/
theorem uni_rows (hv : VarAr ar) {θ : Int → List Int} (hg : GoodA ar θ) {m n : Nat} {t u r s : List Int} (ht : isN ar m t) (hu : isN ar m u) (hr : isN ar n r) (hs : isN ar n s) :
  subV θ (t ++ r) = subV θ (u ++ s) ↔ subV θ t = subV θ u ∧ subV θ r = subV θ s := by
 rw [subV_append, subV_append]
 constructor
 ·intro h
  exact isN_prefix (subA_isN hv hg t m ht) (subA_isN hv hg u m hu) h
 ·rintro ⟨h1, h2⟩
  rw [h1, h2]
theorem uni_heads {θ : Int → List Int} {c d : Int} {r s : List Int} (hc : 0 ≤ c) (hd : 0 ≤ d) : subV θ (c :: r) = subV θ (d :: s) ↔ c = d ∧ subV θ r = subV θ s := by
 simp only [subV]
 rw [subC_pos θ hc, subC_pos θ hd]
 simp
end
end Go.Proofs.YteffiodbflmfkaaDoor.PP
namespace Go.Proofs.YteffiodbflmfkaaDoor.PP
open Go Go.RowKit Go.Proofs.YteffiodbflmfkaaDoorW.PrintWords Go.Proofs.YteffiodbflmfkaaDoorW.PrintLast Go.Proofs.YteffiodbflmfkaaDoor
set_option linter.unusedVariables false
set_option linter.unusedSimpArgs false
/-- A piece: codes, and by how much the numbers of its variables are greater. -/
abbrev Pc := List Int × Nat
def pc0 : Pc := ([], 0)
/-- Which variable a code of a piece is. -/
def nm (b : Nat) (c : Int) : Nat := (-1 - c).toNat + b
def ofS (σ : List Pc) (w : Nat) : Pc := σ.getD w pc0
def whatF (σ : List Pc) : Nat → Pc → Option Pc
 | 0, _ => none
 | k + 1, p => if rd p.1 0 < 0 then (if (ofS σ (nm p.2 (rd p.1 0))).1 = [] then some p else whatF σ k (ofS σ (nm p.2 (rd p.1 0)))) else some p
def scanV (σ : List Pc) (v b : Nat) : List Int → List Nat → List Pc → Option (List Nat × List Pc)
 | [], s, t => some (s, t)
 | c :: r, s, t => if 0 ≤ c then scanV σ v b r s t else if nm b c = v then none else if nm b c ∉ s ∧ (ofS σ (nm b c)).1 ≠ [] then scanV σ v b r (nm b c :: s) (t ++ [ofS σ (nm b c)]) else scanV σ v b r s t
def topOf (t : List Pc) : Pc := t.getD (t.length - 1) pc0
def withinF (σ : List Pc) (v : Nat) : Nat → List Nat → List Pc → Option Bool
 | 0, _, _ => none
 | k + 1, s, t => if t.length = 0 then some false else if 1000 < t.length then none else match scanV σ v (topOf t).2 (topOf t).1 s (t.take (t.length - 1)) with
  | none => some true
  | some x => withinF σ v k x.1 x.2
def putF (k : Nat) (σ : List Pc) (x y : Pc) : Option (Option (List Pc)) :=
 if 0 ≤ rd y.1 0 then (withinF σ (nm x.2 (rd x.1 0)) k [] [y]).bind fun b => some (if b = true then none else some (σ.set (nm x.2 (rd x.1 0)) y))
 else some (some (if nm x.2 (rd x.1 0) < nm y.2 (rd y.1 0) then σ.set (nm y.2 (rd y.1 0)) x else if nm y.2 (rd y.1 0) < nm x.2 (rd x.1 0) then σ.set (nm x.2 (rd x.1 0)) y else σ))
def zipP (b b' : Nat) (ps qs : List (List Int)) : List (Pc × Pc) := List.zipWith (fun s t => ((s, b), (t, b'))) ps qs
def pairsV (l : List S59) (out : List (Pc × Pc)) (x y : Pc) : List (Pc × Pc) := out ++ zipP x.2 y.2 (pcs l x.1) (pcs l y.1)
def topP (t : List (Pc × Pc)) : Pc × Pc := t.getD (t.length - 1) (pc0, pc0)
def sameF (l : List S59) : Nat → List Pc → List (Pc × Pc) → Option (Option (List Pc))
 | 0, _, _ => none
 | k + 1, σ, t => if t.length = 0 then some (some σ) else if 1000000000 < t.length then none else
  (whatF σ k (topP t).1).bind fun x => (whatF σ k (topP t).2).bind fun y =>
  if rd x.1 0 < 0 then (putF k σ x y).bind fun q => match q with | none => some none | some σ' => sameF l k σ' (t.take (t.length - 1))
  else if rd y.1 0 < 0 then (putF k σ y x).bind fun q => match q with | none => some none | some σ' => sameF l k σ' (t.take (t.length - 1))
  else if rd x.1 0 ≠ rd y.1 0 then some none
  else if (pcs l (y.1.drop 1)).length < (pcs l (x.1.drop 1)).length then none else sameF l k σ (pairsV l (t.take (t.length - 1)) (x.1.drop 1, x.2) (y.1.drop 1, y.2))
def wholeL (f : Pc → Option (List Int)) (σ : List Pc) (b : Nat) : List Int → List Int → Option (List Int)
 | [], out => some out
 | c :: r, out => (if c < 0 ∧ (ofS σ (nm b c)).1 ≠ [] then f (ofS σ (nm b c)) else some [c]).bind fun t => if t = [] ∨ 48 < out.length + t.length then some [] else wholeL f σ b r (out ++ t)
def wholeF (σ : List Pc) : Nat → Pc → Option (List Int)
 | 0, _ => none
 | k + 1, p => wholeL (wholeF σ k) σ p.2 p.1 []

/-! what they mean -/
def shC (b : Nat) (c : Int) : Int := if c < 0 then c - b else c
def lg (p : Pc) : List Int := p.1.map (shC p.2)
def tau (σ : List Pc) (c : Int) : List Int := if c < 0 then lg (ofS σ (-1 - c).toNat) else []
def arU (l : List S59) (c : Int) : Option Nat := if c < 0 then (if -48 ≤ c then some 0 else none) else arS l c
structure PcOk (l : List S59) (p : Pc) : Prop where
 one : isN (arS l) 1 p.1
 by_ : p.2 = 0 ∨ p.2 = 24
 len : p.1.length ≤ 48
def StOk (l : List S59) (σ : List Pc) : Prop := σ.length = 48 ∧ ∀ w, (ofS σ w).1 ≠ [] → PcOk l (ofS σ w)
theorem arU_var (l : List S59) : VarAr (arU l) := by
 intro c hc
 unfold arU
 rw [if_pos hc]
 split
 ·exact .inr rfl
 ·exact .inl rfl
theorem arU_lo {l : List S59} {c : Int} (hc : c < 0) (h : arU l c ≠ none) : -48 ≤ c := by
 unfold arU at h
 rw [if_pos hc] at h
 split at h
 ·assumption
 ·exact absurd rfl h
theorem shC_neg {b : Nat} {c : Int} (h : c < 0) : shC b c = c - b := if_pos h
theorem shC_pos {b : Nat} {c : Int} (h : 0 ≤ c) : shC b c = c := if_neg (by omega)
theorem shC_lt {b : Nat} {c : Int} : shC b c < 0 ↔ c < 0 := by
 unfold shC
 split <;> omega
theorem nm_sh {b : Nat} {c : Int} (h : c < 0) : (-1 - shC b c).toNat = nm b c ∧ -1 - (nm b c : Int) = shC b c := by
 rw [shC_neg h]
 unfold nm
 omega
theorem lg_isN {l : List S59} {b : Nat} (hb : b = 0 ∨ b = 24) : ∀ (r : List Int) (n : Nat), isN (arS l) n r → isN (arU l) n (r.map (shC b)) := by
 intro r
 induction r with
 | nil => intro n h; cases n with
  | zero => exact isN_nil
  | succ n => exact absurd (isN_pos h) (by simp)
 | cons c r ih =>
  intro n h
  cases n with
  | zero => have := isN_zero h; cases this
  | succ n =>
   obtain ⟨m, h1, h2⟩ := isN_cons.1 h
   rw [List.map_cons]
   refine isN_cons.2 ⟨m, ?_, ih _ h2⟩
   by_cases hc : c < 0
   ·obtain ⟨h3, h4⟩ := arS_neg hc h1
    rw [shC_neg hc]
    unfold arU
    rw [if_pos (by omega), if_pos (by omega), h3]
   ·rw [shC_pos (by omega)]
    unfold arU
    rw [if_neg hc]
    exact h1
theorem PcOk.lg {l : List S59} {p : Pc} (h : PcOk l p) : isN (arU l) 1 (lg p) := lg_isN h.by_ _ _ h.one
theorem lg_nil {p : Pc} : lg p = [] ↔ p.1 = [] := by unfold lg; simp
theorem lg_length (p : Pc) : (lg p).length = p.1.length := by unfold lg; simp
theorem PcOk.head {l : List S59} {p : Pc} (h : PcOk l p) : ∃ c r m, p.1 = c :: r ∧ rd p.1 0 = c ∧ arS l c = some m ∧ isN (arS l) m r ∧ Go.Proofs.YteffiodbflmfkaaDoor.PP.lg p = shC p.2 c :: r.map (shC p.2) ∧ (c < 0 → r = [] ∧ -24 ≤ c) := by
 obtain ⟨c, r, m, e, h1, h2⟩ := isN_one h.one
 refine ⟨c, r, m, e, by rw [e]; rfl, h1, h2, by unfold Go.Proofs.YteffiodbflmfkaaDoor.PP.lg; rw [e]; rfl, fun hc => ?_⟩
 obtain ⟨h3, h4⟩ := arS_neg hc h1
 rw [h3] at h2
 exact ⟨isN_zero h2, h4⟩
theorem PcOk.var {l : List S59} {p : Pc} (h : PcOk l p) (hv : rd p.1 0 < 0) : Go.Proofs.YteffiodbflmfkaaDoor.PP.lg p = [shC p.2 (rd p.1 0)] ∧ nm p.2 (rd p.1 0) < 48 ∧ p.1 = [rd p.1 0] := by
 obtain ⟨c, r, m, e, e1, h1, h2, h3, h4⟩ := h.head
 rw [e1] at hv ⊢
 obtain ⟨h5, h6⟩ := h4 hv
 rw [h5] at h3 e
 refine ⟨h3, ?_, e⟩
 unfold nm
 rcases h.by_ with h7 | h7 <;> omega
theorem tau_sh {σ : List Pc} {b : Nat} {c : Int} (h : c < 0) : tau σ (shC b c) = lg (ofS σ (nm b c)) := by
 unfold tau
 rw [if_pos (shC_lt.2 h), (nm_sh h).1]
theorem tau_nil {σ : List Pc} {b : Nat} {c : Int} (h : c < 0) : tau σ (shC b c) = [] ↔ (ofS σ (nm b c)).1 = [] := by rw [tau_sh h, lg_nil]
theorem PcOk.ar {l : List S59} {p : Pc} (h : PcOk l p) (hv : rd p.1 0 < 0) : arU l (shC p.2 (rd p.1 0)) ≠ none := by
 have := h.lg
 rw [(h.var hv).1] at this
 obtain ⟨m, h1, _⟩ := isN_cons.1 this
 rw [h1]; simp

/-! ranks: how far what stands for a variable goes on -/
inductive Reach (τ : Int → List Int) : Int → Int → Prop where
 | here {c : Int} (h : c < 0) (hb : τ c ≠ []) : Reach τ c c
 | next {c d e : Int} (h : c < 0) (hd : d ∈ τ c) (h0 : d < 0) (hr : Reach τ d e) : Reach τ c e
structure Rk (τ : Int → List Int) (h : Int → Nat) : Prop where
 le : ∀ c, h c ≤ 48
 pos : ∀ c, c < 0 → -48 ≤ c → τ c ≠ [] → 1 ≤ h c
 down : ∀ c, c < 0 → -48 ≤ c → ∀ d ∈ τ c, d < 0 → h d < h c
theorem countP_le {α : Type} {p q : α → Bool} : ∀ (L : List α), (∀ x ∈ L, p x = true → q x = true) → L.countP p ≤ L.countP q := by
 intro L
 induction L with
 | nil => intro _; simp
 | cons x L ih =>
  intro h
  have h1 := ih (fun y hy => h y (List.mem_cons_of_mem _ hy))
  have h2 := h x (List.mem_cons_self ..)
  rw [List.countP_cons, List.countP_cons]
  cases hp : p x with
  | false => simp; omega
  | true => rw [h2 hp]; simp; omega
theorem countP_lt {α : Type} {p q : α → Bool} : ∀ (L : List α), (∀ x ∈ L, p x = true → q x = true) → (∃ x ∈ L, q x = true ∧ p x = false) → L.countP p < L.countP q := by
 intro L
 induction L with
 | nil => rintro _ ⟨x, hx, _⟩; cases hx
 | cons x L ih =>
  rintro h ⟨y, hy, h3, h4⟩
  have h1 := countP_le L (fun y hy => h y (List.mem_cons_of_mem _ hy))
  have h2 := h x (List.mem_cons_self ..)
  rw [List.countP_cons, List.countP_cons]
  rcases List.mem_cons.1 hy with rfl | hy
  ·rw [h3, h4]; simp; omega
  ·have h5 := ih (fun y hy => h y (List.mem_cons_of_mem _ hy)) ⟨y, hy, h3, h4⟩
   cases hp : p x with
   | false => simp; omega
   | true => rw [h2 hp]; simp; omega
theorem Solved.lt {ar : Int → Option Nat} {τ σ : Int → List Int} (hv : VarAr ar) (h : Solved ar τ σ) {c d : Int} (hc : c < 0) (hd : d ∈ τ c) (hd0 : d < 0) : (σ d).length < (σ c).length ∨ (σ d).length = (σ c).length ∧ c < d := by
 have hb : τ c ≠ [] := by intro e; rw [e] at hd; cases hd
 obtain ⟨_, ht⟩ := h.term c hc hb
 have hr := h.resp c hc hb
 obtain ⟨x, r, k, e, hx, hxr⟩ := isN_one ht
 by_cases hx0 : x < 0
 ·have : r = [] := isN_var_eq hv hx0 (by rw [← e]; exact ht)
  subst this
  rw [e, List.mem_singleton] at hd
  subst hd
  have hdn := h.down c hc d hx0 e
  rw [e, sub_one, subC_neg σ hx0] at hr
  exact .inr ⟨by rw [hr], hdn⟩
 ·have hd' : d ∈ r := by
   rw [e] at hd
   rcases List.mem_cons.1 hd with e' | hd
   ·omega
   ·exact hd
  have h2 := sub_part (θ := σ) hd'
  rw [subC_neg σ hd0] at h2
  have h3 : (σ c).length = 1 + (subV σ r).length := by
   rw [hr, e]
   simp only [subV, List.length_append]
   rw [subC_pos σ (by omega)]
   rfl
  exact .inl (by omega)
theorem Reach.lt {ar : Int → Option Nat} {τ σ : Int → List Int} (hv : VarAr ar) (h : Solved ar τ σ) {c d : Int} (hr : Reach τ c d) : (σ d).length < (σ c).length ∨ (σ d).length = (σ c).length ∧ c ≤ d := by
 induction hr with
 | here hc hb => exact .inr ⟨rfl, Int.le_refl _⟩
 | next hc hd h0 _ ih =>
  have h1 := h.lt hv hc hd h0
  omega
open Classical in
theorem Solved.rank {ar : Int → Option Nat} {τ σ : Int → List Int} (hv : VarAr ar) (h : Solved ar τ σ) : ∃ r, Rk τ r := by
 refine ⟨fun c => (List.range 48).countP (fun (v : Nat) => decide (Reach τ c (-1 - (v : Int)))), fun c => ?_, fun c hc hlo hb => ?_, fun c hc hlo d hd hd0 => ?_⟩
 ·exact Nat.le_trans List.countP_le_length (by simp)
 ·have : 0 < (List.range 48).countP (fun (v : Nat) => decide (Reach τ c (-1 - (v : Int)))) := by
   rw [List.countP_pos_iff]
   refine ⟨(-1 - c).toNat, by simp; omega, ?_⟩
   rw [show -1 - (((-1 - c).toNat : Nat) : Int) = c by omega]
   simpa using Reach.here hc hb
  exact this
 ·refine countP_lt _ (fun v _ hr => ?_) ⟨(-1 - c).toNat, by simp; omega, ?_, ?_⟩
  ·simp only [decide_eq_true_eq] at hr ⊢
   exact Reach.next hc hd hd0 hr
  ·rw [show -1 - (((-1 - c).toNat : Nat) : Int) = c by omega]
   simp only [decide_eq_true_eq]
   exact Reach.here hc (fun e => by rw [e] at hd; cases hd)
  ·rw [show -1 - (((-1 - c).toNat : Nat) : Int) = c by omega]
   simp only [decide_eq_false_iff_not]
   intro hr
   have h1 := hr.lt hv h
   have h2 := h.lt hv hc hd hd0
   omega
/-- How far a term goes on is at most n. -/
def Dle (h : Int → Nat) (t : List Int) (n : Nat) : Prop := ∃ r, r ≤ 48 ∧ (∀ c ∈ t, c < 0 → h c ≤ r) ∧ 49 * r + t.length ≤ n
theorem Rk.any {τ : Int → List Int} {h : Int → Nat} (hr : Rk τ h) {t : List Int} (ht : t.length ≤ 48) : Dle h t 2400 := ⟨48, Nat.le_refl _, fun c _ _ => hr.le c, by omega⟩

/-! what a term stands for -/
theorem what_ev {l : List S59} {σ : List Pc} {ς : Int → List Int} (hst : StOk l σ) (hs : Solved (arU l) (tau σ) ς) (p : Pc) (hp : PcOk l p) :
  ∃ q, Ev (fun k => whatF σ k p) q ∧ PcOk l q ∧ (∀ θ, Resp θ (tau σ) → subV θ (lg q) = subV θ (lg p)) ∧ (rd q.1 0 < 0 → (ofS σ (nm q.2 (rd q.1 0))).1 = []) ∧ ∀ h n, Rk (tau σ) h → Dle h (lg p) n → Dle h (lg q) n := by
 have triv : ∀ p, PcOk l p → ¬ rd p.1 0 < 0 → ∃ q, Ev (fun k => whatF σ k p) q ∧ PcOk l q ∧ (∀ θ, Resp θ (tau σ) → subV θ (lg q) = subV θ (lg p)) ∧ (rd q.1 0 < 0 → (ofS σ (nm q.2 (rd q.1 0))).1 = []) ∧ ∀ h n, Rk (tau σ) h → Dle h (lg p) n → Dle h (lg q) n := by
  intro p hp hn
  refine ⟨p, Ev.step (f := fun _ => some p) (fun k => ?_) (Ev.now _), hp, fun _ _ => rfl, fun h => absurd h hn, fun _ _ _ h => h⟩
  simp only [whatF]
  rw [if_neg hn]
 have key : ∀ c, c < 0 → arU l c ≠ none → ∀ p, PcOk l p → lg p = [c] → rd p.1 0 < 0 → ∃ q, Ev (fun k => whatF σ k p) q ∧ PcOk l q ∧ (∀ θ, Resp θ (tau σ) → subV θ (lg q) = subV θ (lg p)) ∧ (rd q.1 0 < 0 → (ofS σ (nm q.2 (rd q.1 0))).1 = []) ∧ ∀ h n, Rk (tau σ) h → Dle h (lg p) n → Dle h (lg q) n := by
  refine hs.induct (arU_var l) (fun c hc ha ih p hp hl hn => ?_)
  have hv := hp.var hn
  have hcc : shC p.2 (rd p.1 0) = c := by rw [hl] at hv; injection hv.1 with h1; exact h1.symm
  by_cases hb : (ofS σ (nm p.2 (rd p.1 0))).1 = []
  ·refine ⟨p, Ev.step (f := fun _ => some p) (fun k => ?_) (Ev.now _), hp, fun _ _ => rfl, fun _ => hb, fun _ _ _ h => h⟩
   simp only [whatF]
   rw [if_pos hn, if_pos hb]
  ·have hq := hst.2 _ hb
   have htau : tau σ c = lg (ofS σ (nm p.2 (rd p.1 0))) := by rw [← hcc, tau_sh hn]
   have hne : tau σ c ≠ [] := by rw [htau]; exact fun h => hb (lg_nil.1 h)
   have hstep : ∀ q, Ev (fun k => whatF σ k (ofS σ (nm p.2 (rd p.1 0)))) q → Ev (fun k => whatF σ k p) q := by
    intro q hq
    refine Ev.step (f := fun k => whatF σ k (ofS σ (nm p.2 (rd p.1 0)))) (fun k => ?_) hq
    simp only [whatF]
    rw [if_pos hn, if_neg hb]
   have hsub : ∀ θ, Resp θ (tau σ) → subV θ (lg (ofS σ (nm p.2 (rd p.1 0)))) = subV θ (lg p) := by
    intro θ hr
    rw [hl, sub_one, subC_neg θ hc, hr c hc hne, htau]
   have hdown : ∀ h n, Rk (tau σ) h → Dle h (lg p) n → Dle h (lg (ofS σ (nm p.2 (rd p.1 0)))) n := by
    rintro h n hr ⟨r, h48, h1, h2⟩
    have hlo := arU_lo hc ha
    have hpos := hr.pos c hc hlo hne
    have hle := h1 c (by rw [hl]; simp) hc
    refine ⟨h c - 1, by omega, fun d hd hd0 => ?_, ?_⟩
    ·have := hr.down c hc hlo d (by rw [htau]; exact hd) hd0
     omega
    ·rw [lg_length]
     rw [lg_length] at h2
     have := hq.len
     omega
   have : ∃ q, Ev (fun k => whatF σ k (ofS σ (nm p.2 (rd p.1 0)))) q ∧ PcOk l q ∧ (∀ θ, Resp θ (tau σ) → subV θ (lg q) = subV θ (lg (ofS σ (nm p.2 (rd p.1 0))))) ∧ (rd q.1 0 < 0 → (ofS σ (nm q.2 (rd q.1 0))).1 = []) ∧ ∀ h n, Rk (tau σ) h → Dle h (lg (ofS σ (nm p.2 (rd p.1 0)))) n → Dle h (lg q) n := by
    by_cases hn2 : rd (ofS σ (nm p.2 (rd p.1 0))).1 0 < 0
    ·have hv2 := (hq.var hn2).1
     refine ih hne (shC (ofS σ (nm p.2 (rd p.1 0))).2 (rd (ofS σ (nm p.2 (rd p.1 0))).1 0)) ?_ (shC_lt.2 hn2) _ hq hv2 hn2
     rw [htau, hv2]
     simp
    ·exact triv _ hq hn2
   obtain ⟨q, h1, h2, h3, h4, h5⟩ := this
   exact ⟨q, hstep q h1, h2, fun θ hr => by rw [h3 θ hr, hsub θ hr], h4, fun h n hr hd => h5 h n hr (hdown h n hr hd)⟩
 by_cases hn : rd p.1 0 < 0
 ·exact key _ (shC_lt.2 hn) (hp.ar hn) p hp (hp.var hn).1 hn
 ·exact triv p hp hn

/-! does a variable stand within a term -/
theorem scan_spec {σ : List Pc} {v b : Nat} : ∀ (r : List Int) (s : List Nat) (t : List Pc), match scanV σ v b r s t with
  | none => ∃ c ∈ r, c < 0 ∧ nm b c = v
  | some x => (∀ w ∈ s, w ∈ x.1) ∧ (∀ p ∈ t, p ∈ x.2) ∧ (∀ c ∈ r, c < 0 → nm b c ≠ v ∧ ((ofS σ (nm b c)).1 ≠ [] → nm b c ∈ x.1)) ∧ (∀ w ∈ x.1, w ∈ s ∨ ofS σ w ∈ x.2 ∧ (ofS σ w).1 ≠ []) ∧ (∀ p ∈ x.2, p ∈ t ∨ ∃ c ∈ r, c < 0 ∧ p = ofS σ (nm b c) ∧ p.1 ≠ []) ∧ x.2.length + s.length = t.length + x.1.length ∧ (s.Nodup → x.1.Nodup) := by
 intro r
 induction r with
 | nil => intro s t; exact ⟨fun _ h => h, fun _ h => h, fun c hc => (by cases hc), fun w h => Or.inl h, fun p h => Or.inl h, rfl, fun h => h⟩
 | cons c r ih =>
  intro s t
  simp only [scanV]
  by_cases hc : 0 ≤ c
  ·rw [if_pos hc]
   have := ih s t
   revert this
   cases scanV σ v b r s t with
   | none => rintro ⟨d, hd, h⟩; exact ⟨d, List.mem_cons_of_mem _ hd, h⟩
   | some x =>
    rintro ⟨h1, h2, h3, h4, h5, h6, h7⟩
    refine ⟨h1, h2, fun d hd hd0 => ?_, h4, fun p hp => ?_, h6, h7⟩
    ·rcases List.mem_cons.1 hd with rfl | hd
     ·omega
     ·exact h3 d hd hd0
    ·rcases h5 p hp with h | ⟨d, hd, h⟩
     ·exact .inl h
     ·exact .inr ⟨d, List.mem_cons_of_mem _ hd, h⟩
  ·rw [if_neg hc]
   by_cases hv : nm b c = v
   ·rw [if_pos hv]
    exact ⟨c, List.mem_cons_self .., by omega, hv⟩
   ·rw [if_neg hv]
    by_cases hw : nm b c ∉ s ∧ (ofS σ (nm b c)).1 ≠ []
    ·rw [if_pos hw]
     have := ih (nm b c :: s) (t ++ [ofS σ (nm b c)])
     revert this
     cases scanV σ v b r (nm b c :: s) (t ++ [ofS σ (nm b c)]) with
     | none => rintro ⟨d, hd, h⟩; exact ⟨d, List.mem_cons_of_mem _ hd, h⟩
     | some x =>
      rintro ⟨h1, h2, h3, h4, h5, h6, h7⟩
      refine ⟨fun w h => h1 w (List.mem_cons_of_mem _ h), fun p h => h2 p (List.mem_append.2 (.inl h)), fun d hd hd0 => ?_, fun w h => ?_, fun p hp => ?_, ?_, fun h => h7 (List.nodup_cons.2 ⟨hw.1, h⟩)⟩
      ·rcases List.mem_cons.1 hd with rfl | hd
       ·exact ⟨hv, fun _ => h1 _ (List.mem_cons_self ..)⟩
       ·exact h3 d hd hd0
      ·rcases h4 w h with h | h
       ·rcases List.mem_cons.1 h with rfl | h
        ·exact .inr ⟨h2 _ (by simp), hw.2⟩
        ·exact .inl h
       ·exact .inr h
      ·rcases h5 p hp with h | ⟨d, hd, h⟩
       ·rcases List.mem_append.1 h with h | h
        ·exact .inl h
        ·rw [List.mem_singleton] at h
         exact .inr ⟨c, List.mem_cons_self .., by omega, h, by rw [h]; exact hw.2⟩
       ·exact .inr ⟨d, List.mem_cons_of_mem _ hd, h⟩
      ·simp only [List.length_append, List.length_cons, List.length_nil] at h6
       omega
    ·rw [if_neg hw]
     have := ih s t
     revert this
     cases scanV σ v b r s t with
     | none => rintro ⟨d, hd, h⟩; exact ⟨d, List.mem_cons_of_mem _ hd, h⟩
     | some x =>
      rintro ⟨h1, h2, h3, h4, h5, h6, h7⟩
      refine ⟨h1, h2, fun d hd hd0 => ?_, h4, fun p hp => ?_, h6, h7⟩
      ·rcases List.mem_cons.1 hd with rfl | hd
       ·refine ⟨hv, fun hb => h1 _ ?_⟩
        by_cases hm : nm b d ∈ s
        ·exact hm
        ·exact absurd ⟨hm, hb⟩ hw
       ·exact h3 d hd hd0
      ·rcases h5 p hp with h | ⟨d, hd, h⟩
       ·exact .inl h
       ·exact .inr ⟨d, List.mem_cons_of_mem _ hd, h⟩
theorem nodup_le : ∀ (n : Nat) (s : List Nat), s.Nodup → (∀ w ∈ s, w < n) → s.length ≤ n := by
 intro n
 induction n with
 | zero =>
  intro s _ h
  cases s with
  | nil => simp
  | cons w s => exact absurd (h w (List.mem_cons_self ..)) (by omega)
 | succ n ih =>
  intro s hs h
  have h1 := ih (s.erase n) (hs.erase n) (fun w hw => by
   have h2 := (hs.mem_erase_iff).1 hw
   have := h w h2.2
   have := h2.1
   omega)
  have h2 : s.length ≤ (s.erase n).length + 1 := by
   rw [List.length_erase]
   split <;> omega
  omega
theorem top_mem {α : Type} {d : α} {t : List α} (h : t.length ≠ 0) : t.getD (t.length - 1) d ∈ t ∧ t = t.take (t.length - 1) ++ [t.getD (t.length - 1) d] := by
 have hl : t.length - 1 < t.length := by omega
 rw [List.getD_eq_getElem?_getD, List.getElem?_eq_getElem hl]
 refine ⟨List.getElem_mem _, ?_⟩
 show t = t.take (t.length - 1) ++ [t[t.length - 1]]
 rw [← List.take_succ_eq_append_getElem hl, show t.length - 1 + 1 = t.length by omega, List.take_length]
theorem within_ev {l : List S59} {σ : List Pc} {ς : Int → List Int} (hst : StOk l σ) (hs : Solved (arU l) (tau σ) ς) {v : Nat} (hv : v < 48) (hf : (ofS σ v).1 = []) (y : Pc) (hy : PcOk l y) :
  ∃ b, Ev (fun k => withinF σ v k [] [y]) b ∧ (b = true ↔ (-1 - (v : Int)) ∈ subV ς (lg y)) := by
 have hfree : ς (-1 - (v : Int)) = [-1 - (v : Int)] := by
  refine hs.free _ (by omega) ?_
  unfold tau
  rw [if_pos (by omega), show (-1 - (-1 - (v : Int))).toNat = v by omega]
  exact lg_nil.2 hf
 have here : ∀ p : Pc, (∃ c ∈ p.1, c < 0 ∧ nm p.2 c = v) → (-1 - (v : Int)) ∈ subV ς (lg p) := by
  rintro p ⟨c, hc, hc0, e⟩
  refine sub_mem.2 ⟨shC p.2 c, List.mem_map.2 ⟨c, hc, rfl⟩, ?_⟩
  rw [← (nm_sh hc0).2, e, subC_neg ς (by omega), hfree]
  simp
 have down : ∀ (p : Pc), PcOk l p → ∀ c ∈ p.1, c < 0 → (ofS σ (nm p.2 c)).1 ≠ [] → (-1 - (v : Int)) ∈ subV ς (lg (ofS σ (nm p.2 c))) → (-1 - (v : Int)) ∈ subV ς (lg p) := by
  intro p hp c hc hc0 hb hm
  refine sub_mem.2 ⟨shC p.2 c, List.mem_map.2 ⟨c, hc, rfl⟩, ?_⟩
  have hb' : tau σ (shC p.2 c) ≠ [] := fun h => hb ((tau_nil hc0).1 h)
  rw [subC_neg ς (shC_lt.2 hc0), hs.resp _ (shC_lt.2 hc0) hb', tau_sh hc0]
  exact hm
 have atEnd : ∀ (s : List Nat), (y ∈ ([] : List Pc) ∨ ∀ c ∈ y.1, c < 0 → nm y.2 c ≠ v ∧ ((ofS σ (nm y.2 c)).1 ≠ [] → nm y.2 c ∈ s)) →
   (∀ w ∈ s, (ofS σ w).1 ≠ [] ∧ (ofS σ w ∈ ([] : List Pc) ∨ ∀ c ∈ (ofS σ w).1, c < 0 → nm (ofS σ w).2 c ≠ v ∧ ((ofS σ (nm (ofS σ w).2 c)).1 ≠ [] → nm (ofS σ w).2 c ∈ s))) →
   ∃ b, Ev (fun k => withinF σ v k s []) b ∧ (b = true ↔ (-1 - (v : Int)) ∈ subV ς (lg y)) := by
  intro s h5 h6
  refine ⟨false, Ev.step (f := fun _ => some false) (fun k => by simp only [withinF]; rfl) (Ev.now _), fun h => (by cases h), fun hin => ?_⟩
  exfalso
  have h5 := h5.resolve_left (by simp)
  have h6 : ∀ w ∈ s, ∀ c ∈ (ofS σ w).1, c < 0 → nm (ofS σ w).2 c ≠ v ∧ ((ofS σ (nm (ofS σ w).2 c)).1 ≠ [] → nm (ofS σ w).2 c ∈ s) := fun w hw => (h6 w hw).2.resolve_left (by simp)
  have key : ∀ c, c < 0 → arU l c ≠ none → c ≠ -1 - (v : Int) → (tau σ c ≠ [] → (-1 - c).toNat ∈ s) → (-1 - (v : Int)) ∉ ς c := by
   refine hs.induct (arU_var l) (fun c hc ha ih hcv hin => ?_)
   by_cases hb : tau σ c = []
   ·rw [hs.free c hc hb, List.mem_singleton]
    exact fun h => hcv h.symm
   ·rw [hs.resp c hc hb]
    intro hm
    obtain ⟨d, hd, hm⟩ := sub_mem.1 hm
    have htau : tau σ c = lg (ofS σ (-1 - c).toNat) := by unfold tau; rw [if_pos hc]
    have hd' := hd
    rw [htau] at hd'
    obtain ⟨d', hd1, rfl⟩ := List.mem_map.1 hd'
    by_cases hd0 : d' < 0
    ·have hw := h6 _ (hin hb) d' hd1 hd0
     rw [subC_neg ς (shC_lt.2 hd0)] at hm
     refine ih hb _ hd (shC_lt.2 hd0) ?_ ?_ hm
     ·rw [← (nm_sh hd0).2]
      intro e
      exact hw.1 (by omega)
     ·intro hb2
      rw [(nm_sh hd0).1]
      exact hw.2 (fun e => hb2 ((tau_nil hd0).2 e))
    ·rw [shC_pos (by omega), subC_pos ς (by omega), List.mem_singleton] at hm
     omega
  obtain ⟨d, hd, hm⟩ := sub_mem.1 hin
  obtain ⟨d', hd1, rfl⟩ := List.mem_map.1 hd
  have hya := isN_ar hy.lg hd
  by_cases hd0 : d' < 0
  ·have hw := h5 d' hd1 hd0
   rw [subC_neg ς (shC_lt.2 hd0)] at hm
   refine key _ (shC_lt.2 hd0) hya ?_ ?_ hm
   ·rw [← (nm_sh hd0).2]
    intro e
    exact hw.1 (by omega)
   ·intro hb2
    rw [(nm_sh hd0).1]
    exact hw.2 (fun e => hb2 ((tau_nil hd0).2 e))
  ·rw [shC_pos (by omega), subC_pos ς (by omega), List.mem_singleton] at hm
   omega
 have loop : ∀ (n : Nat) (s : List Nat) (t : List Pc), t.length + 48 ≤ n + s.length → n ≤ 49 → s.Nodup → (∀ w ∈ s, w < 48) →
   (∀ p ∈ t, PcOk l p ∧ ((-1 - (v : Int)) ∈ subV ς (lg p) → (-1 - (v : Int)) ∈ subV ς (lg y))) →
   (y ∈ t ∨ ∀ c ∈ y.1, c < 0 → nm y.2 c ≠ v ∧ ((ofS σ (nm y.2 c)).1 ≠ [] → nm y.2 c ∈ s)) →
   (∀ w ∈ s, (ofS σ w).1 ≠ [] ∧ (ofS σ w ∈ t ∨ ∀ c ∈ (ofS σ w).1, c < 0 → nm (ofS σ w).2 c ≠ v ∧ ((ofS σ (nm (ofS σ w).2 c)).1 ≠ [] → nm (ofS σ w).2 c ∈ s))) →
   ∃ b, Ev (fun k => withinF σ v k s t) b ∧ (b = true ↔ (-1 - (v : Int)) ∈ subV ς (lg y)) := by
  intro n
  induction n with
  | zero =>
   intro s t h1 _ h2 h3 h4 h5 h6
   have h48 := nodup_le 48 s h2 h3
   have ht : t = [] := List.length_eq_zero_iff.1 (by omega)
   subst ht
   exact atEnd s h5 h6
  | succ n ih =>
   intro s t h1 hn h2 h3 h4 h5 h6
   have h48 := nodup_le 48 s h2 h3
   by_cases ht : t.length = 0
   ·have ht : t = [] := List.length_eq_zero_iff.1 ht
    subst ht
    exact atEnd s h5 h6
   ·obtain ⟨hm, htk⟩ := top_mem (d := pc0) ht
    have hp := h4 _ hm
    have hsp := scan_spec (σ := σ) (v := v) (b := (topOf t).2) (topOf t).1 s (t.take (t.length - 1))
    have hstep : ∀ k, withinF σ v (k + 1) s t = match scanV σ v (topOf t).2 (topOf t).1 s (t.take (t.length - 1)) with | none => some true | some x => withinF σ v k x.1 x.2 := by
     intro k
     simp only [withinF]
     rw [if_neg ht, if_neg (by omega)]
    cases hsc : scanV σ v (topOf t).2 (topOf t).1 s (t.take (t.length - 1)) with
    | none =>
     rw [hsc] at hsp hstep
     refine ⟨true, Ev.step (f := fun _ => some true) hstep (Ev.now _), fun _ => hp.2 (here _ hsp), fun _ => rfl⟩
    | some x =>
     rw [hsc] at hsp hstep
     obtain ⟨a1, a2, a3, a4, a5, a6, a7⟩ := hsp
     have htl : (t.take (t.length - 1)).length = t.length - 1 := by rw [List.length_take]; omega
     have hdone : ∀ q : Pc, (q ∈ t ∨ ∀ c ∈ q.1, c < 0 → nm q.2 c ≠ v ∧ ((ofS σ (nm q.2 c)).1 ≠ [] → nm q.2 c ∈ s)) → (q ∈ x.2 ∨ ∀ c ∈ q.1, c < 0 → nm q.2 c ≠ v ∧ ((ofS σ (nm q.2 c)).1 ≠ [] → nm q.2 c ∈ x.1)) := by
      intro q hq
      rcases hq with hq | hq
      ·rw [htk] at hq
       rcases List.mem_append.1 hq with hq | hq
       ·exact .inl (a2 q hq)
       ·rw [List.mem_singleton] at hq
        rw [hq]
        exact .inr a3
      ·exact .inr (fun c hc hc0 => ⟨(hq c hc hc0).1, fun hb => a1 _ ((hq c hc hc0).2 hb)⟩)
     have k1 : ∀ w ∈ x.1, w < 48 := by
      intro w hw
      rcases a4 w hw with h | ⟨_, h⟩
      ·exact h3 w h
      ·refine Nat.lt_of_not_le (fun hle => h ?_)
       have : σ.length ≤ w := by rw [hst.1]; exact hle
       simp [ofS, List.getD_eq_getElem?_getD, List.getElem?_eq_none this, pc0]
     have k2 : ∀ p ∈ x.2, PcOk l p ∧ ((-1 - (v : Int)) ∈ subV ς (lg p) → (-1 - (v : Int)) ∈ subV ς (lg y)) := by
      intro p hpx
      rcases a5 p hpx with h | ⟨c, hc, hc0, e, hne⟩
      ·exact h4 p (List.mem_of_mem_take h)
      ·subst e
       exact ⟨hst.2 _ hne, fun hin => hp.2 (down _ hp.1 c hc hc0 hne hin)⟩
     have k3 : ∀ w ∈ x.1, (ofS σ w).1 ≠ [] ∧ (ofS σ w ∈ x.2 ∨ ∀ c ∈ (ofS σ w).1, c < 0 → nm (ofS σ w).2 c ≠ v ∧ ((ofS σ (nm (ofS σ w).2 c)).1 ≠ [] → nm (ofS σ w).2 c ∈ x.1)) := by
      intro w hw
      rcases a4 w hw with h | ⟨h, hb⟩
      ·exact ⟨(h6 w h).1, hdone _ (h6 w h).2⟩
      ·exact ⟨hb, .inl h⟩
     obtain ⟨b, e1, e2⟩ := ih x.1 x.2 (by omega) (by omega) (a7 h2) k1 k2 (hdone y h5) k3
     exact ⟨b, Ev.step hstep e1, e2⟩
 refine loop 49 [] [y] (by simp) (Nat.le_refl _) List.nodup_nil (fun w hw => by cases hw) (fun p hp => ?_) (.inl (List.mem_singleton.2 rfl)) (fun w hw => by cases hw)
 rw [List.mem_singleton] at hp
 subst hp
 exact ⟨hy, fun h => h⟩

/-! a variable more -/
theorem ofS_same {σ : List Pc} {w : Nat} {y : Pc} (h : w < σ.length) : ofS (σ.set w y) w = y := by
 unfold ofS
 simp [List.getD_eq_getElem?_getD, h]
theorem ofS_other {σ : List Pc} {w v : Nat} {y : Pc} (h : v ≠ w) : ofS (σ.set w y) v = ofS σ v := by
 unfold ofS
 rw [List.getD_eq_getElem?_getD, List.getElem?_set, if_neg (fun e => h (Eq.symm e)), ← List.getD_eq_getElem?_getD]
theorem tau_set {σ : List Pc} {w : Nat} {y : Pc} (hw : w < σ.length) : tau (σ.set w y) = upd (tau σ) (-1 - (w : Int)) (lg y) := by
 funext c
 by_cases hc : c = -1 - (w : Int)
 ·subst hc
  rw [upd_same]
  unfold tau
  rw [if_pos (by omega), show (-1 - (-1 - (w : Int))).toNat = w by omega, ofS_same hw]
 ·rw [upd_other _ _ hc]
  unfold tau
  by_cases h0 : c < 0
  ·rw [if_pos h0, if_pos h0, ofS_other (by omega)]
  ·rw [if_neg h0, if_neg h0]
def fr (σ : List Pc) : Nat := (List.range 48).countP (fun w => (ofS σ w).1.isEmpty)
theorem fr_le (σ : List Pc) : fr σ ≤ 48 := Nat.le_trans List.countP_le_length (by simp)
theorem fr_set {σ : List Pc} {w : Nat} {y : Pc} (hl : σ.length = 48) (hw : w < 48) (hf : (ofS σ w).1 = []) (hy : y.1 ≠ []) : fr (σ.set w y) < fr σ := by
 refine countP_lt _ (fun v _ h => ?_) ⟨w, by simpa using hw, by rw [hf]; rfl, ?_⟩
 ·by_cases e : v = w
  ·subst e
   rw [ofS_same (by omega)] at h
   exact absurd (List.isEmpty_iff.1 h) hy
  ·rwa [ofS_other e] at h
 ·rw [ofS_same (by omega)]
  simpa using hy
theorem st_set {l : List S59} {σ : List Pc} {w : Nat} {y : Pc} (hst : StOk l σ) (hw : w < 48) (hy : PcOk l y) : StOk l (σ.set w y) := by
 refine ⟨by rw [List.length_set]; exact hst.1, fun v hv => ?_⟩
 by_cases e : v = w
 ·subst e
  rw [ofS_same (by rw [hst.1]; exact hw)]
  exact hy
 ·rw [ofS_other e] at hv ⊢
  exact hst.2 v hv
theorem tau_free {σ : List Pc} {w : Nat} : tau σ (-1 - (w : Int)) = [] ↔ (ofS σ w).1 = [] := by
 unfold tau
 rw [if_pos (by omega), show (-1 - (-1 - (w : Int))).toNat = w by omega, lg_nil]
theorem bind_step {l : List S59} {σ : List Pc} {ς : Int → List Int} (hst : StOk l σ) (hs : Solved (arU l) (tau σ) ς) {w : Nat} (hw : w < 48) (hf : (ofS σ w).1 = []) {y : Pc} (hy : PcOk l y) (hno : (-1 - (w : Int)) ∉ subV ς (lg y)) (hd : ∀ d, d < 0 → lg y = [d] → -1 - (w : Int) < d) :
  StOk l (σ.set w y) ∧ (∃ ς', Solved (arU l) (tau (σ.set w y)) ς') ∧ (∀ θ, (Resp θ (tau σ) ∧ θ (-1 - (w : Int)) = subV θ (lg y)) ↔ Resp θ (tau (σ.set w y))) ∧ fr (σ.set w y) < fr σ := by
 have hyne : y.1 ≠ [] := by
  intro e
  have := isN_pos hy.one
  rw [e] at this
  simp at this
 have hlne : lg y ≠ [] := fun e => hyne (lg_nil.1 e)
 refine ⟨st_set hst hw hy, ?_, ?_, fr_set hst.1 hw hf hyne⟩
 ·rw [tau_set (by rw [hst.1]; exact hw)]
  refine ⟨_, hs.bind (arU_var l) (by omega) ?_ (tau_free.2 hf) hy.lg hno hd⟩
  unfold arU
  rw [if_pos (by omega), if_pos (by omega)]
  simp
 ·intro θ
  rw [tau_set (by rw [hst.1]; exact hw)]
  exact resp_bind (by omega) (tau_free.2 hf) hlne
theorem sub_var {l : List S59} {x : Pc} (hx : PcOk l x) (hv : rd x.1 0 < 0) (θ : Int → List Int) : subV θ (lg x) = θ (-1 - (nm x.2 (rd x.1 0) : Int)) := by
 rw [(hx.var hv).1, sub_one, subC_neg θ (shC_lt.2 hv), (nm_sh hv).2]
theorem put_ev {l : List S59} {σ : List Pc} {ς : Int → List Int} (hst : StOk l σ) (hs : Solved (arU l) (tau σ) ς) (x y : Pc) (hx : PcOk l x) (hy : PcOk l y) (hxv : rd x.1 0 < 0) (hxf : (ofS σ (nm x.2 (rd x.1 0))).1 = []) (hyf : rd y.1 0 < 0 → (ofS σ (nm y.2 (rd y.1 0))).1 = []) :
  ∃ q, Ev (fun k => putF k σ x y) q ∧ match q with
   | none => ∀ θ, GoodA (arU l) θ → Resp θ (tau σ) → subV θ (lg x) ≠ subV θ (lg y)
   | some σ' => StOk l σ' ∧ (∃ ς', Solved (arU l) (tau σ') ς') ∧ (∀ θ, (Resp θ (tau σ) ∧ subV θ (lg x) = subV θ (lg y)) ↔ Resp θ (tau σ')) ∧ (σ' = σ ∨ fr σ' < fr σ) := by
 have hxw := (hx.var hxv).2.1
 by_cases h0 : 0 ≤ rd y.1 0
 ·obtain ⟨c, r, m, e, e1, a1, a2, a3, a4⟩ := hy.head
  rw [e1] at h0
  obtain ⟨b, hb, hiff⟩ := within_ev hst hs hxw hxf y hy
  have hev : Ev (fun k => putF k σ x y) (if b = true then none else some (σ.set (nm x.2 (rd x.1 0)) y)) := by
   obtain ⟨n, hn⟩ := hb
   refine ⟨n, fun k hk => ?_⟩
   have h1 := hn k hk
   simp only at h1
   simp only [putF]
   rw [if_pos (by rw [e1]; exact h0), h1]
   rfl
  refine ⟨_, hev, ?_⟩
  cases b with
  | true =>
   rw [if_pos rfl]
   intro θ hg hr
   have hm := hiff.1 rfl
   rw [sub_var hx hxv]
   refine hs.never (arU_var l) hg hr (by omega) hy.lg hm ?_
   cases r with
   | nil =>
    rw [a3] at hm
    simp only [List.map_nil, sub_one] at hm
    rw [shC_pos h0, subC_pos ς h0, List.mem_singleton] at hm
    omega
   | cons d r => rw [a3]; simp
  | false =>
   rw [if_neg (by simp)]
   have hno : (-1 - (nm x.2 (rd x.1 0) : Int)) ∉ subV ς (lg y) := fun h => by have := hiff.2 h; cases this
   obtain ⟨b1, b2, b3, b4⟩ := bind_step hst hs hxw hxf hy hno (fun d hd0 hd => by
    rw [a3] at hd
    injection hd with hd _
    rw [shC_pos h0] at hd
    omega)
   exact ⟨b1, b2, fun θ => by rw [sub_var hx hxv]; exact b3 θ, .inr b4⟩
 ·have hyv : rd y.1 0 < 0 := by omega
  have hyw := (hy.var hyv).2.1
  have hyf := hyf hyv
  have hev : ∀ q, (if nm x.2 (rd x.1 0) < nm y.2 (rd y.1 0) then σ.set (nm y.2 (rd y.1 0)) x else if nm y.2 (rd y.1 0) < nm x.2 (rd x.1 0) then σ.set (nm x.2 (rd x.1 0)) y else σ) = q → Ev (fun k => putF k σ x y) (some q) := by
   rintro q rfl
   refine ⟨0, fun k _ => ?_⟩
   simp only [putF]
   rw [if_neg h0]
  have hfx : ς (-1 - (nm x.2 (rd x.1 0) : Int)) = [-1 - (nm x.2 (rd x.1 0) : Int)] := hs.free _ (by omega) (tau_free.2 hxf)
  have hfy : ς (-1 - (nm y.2 (rd y.1 0) : Int)) = [-1 - (nm y.2 (rd y.1 0) : Int)] := hs.free _ (by omega) (tau_free.2 hyf)
  have hlx : lg x = [-1 - (nm x.2 (rd x.1 0) : Int)] := by rw [(hx.var hxv).1, (nm_sh hxv).2]
  have hly : lg y = [-1 - (nm y.2 (rd y.1 0) : Int)] := by rw [(hy.var hyv).1, (nm_sh hyv).2]
  by_cases h1 : nm x.2 (rd x.1 0) < nm y.2 (rd y.1 0)
  ·refine ⟨_, hev _ (if_pos h1), ?_⟩
   obtain ⟨b1, b2, b3, b4⟩ := bind_step hst hs hyw hyf hx (by rw [sub_var hx hxv, hfx, List.mem_singleton]; omega) (fun d hd0 hd => by
    rw [hlx] at hd
    injection hd with hd _
    omega)
   refine ⟨b1, b2, fun θ => ?_, .inr b4⟩
   rw [← b3 θ, sub_var hx hxv, sub_var hy hyv]
   exact ⟨fun h => ⟨h.1, h.2.symm⟩, fun h => ⟨h.1, h.2.symm⟩⟩
  ·by_cases h2 : nm y.2 (rd y.1 0) < nm x.2 (rd x.1 0)
   ·refine ⟨_, hev _ (by rw [if_neg h1, if_pos h2]), ?_⟩
    obtain ⟨b1, b2, b3, b4⟩ := bind_step hst hs hxw hxf hy (by rw [sub_var hy hyv, hfy, List.mem_singleton]; omega) (fun d hd0 hd => by
     rw [hly] at hd
     injection hd with hd _
     omega)
    refine ⟨b1, b2, fun θ => ?_, .inr b4⟩
    rw [← b3 θ, sub_var hx hxv]
   ·refine ⟨_, hev _ (by rw [if_neg h1, if_neg h2]), ?_⟩
    refine ⟨hst, ⟨ς, hs⟩, fun θ => ⟨fun h => h.1, fun h => ⟨h, ?_⟩⟩, .inl rfl⟩
    rw [hlx, hly, show nm x.2 (rd x.1 0) = nm y.2 (rd y.1 0) by omega]

/-! pairs -/
def UniP (θ : Int → List Int) (t : List (Pc × Pc)) : Prop := ∀ e ∈ t, subV θ (lg e.1) = subV θ (lg e.2)
def TdOk (l : List S59) (t : List (Pc × Pc)) : Prop := ∀ e ∈ t, PcOk l e.1 ∧ PcOk l e.2
def szP (ς : Int → List Int) : List (Pc × Pc) → Nat
 | [] => 0
 | e :: t => (subV ς (lg e.1)).length + szP ς t
theorem szP_append (ς : Int → List Int) (t u : List (Pc × Pc)) : szP ς (t ++ u) = szP ς t + szP ς u := by
 induction t with
 | nil => simp [szP]
 | cons e t ih => simp only [List.cons_append, szP, ih]; omega
def Pot (τ : Int → List Int) (t : List (Pc × Pc)) (B : Nat) : Prop := ∃ h, Rk τ h ∧ ∀ i e, t[i]? = some e → ∃ n, Dle h (lg e.1) n ∧ i + 3 * n ≤ B
theorem zip_uni {l : List S59} {b b' : Nat} (hb : b = 0 ∨ b = 24) (hb' : b' = 0 ∨ b' = 24) {θ : Int → List Int} (hg : GoodA (arU l) θ) : ∀ (ps qs : List (List Int)), ps.length = qs.length → (∀ t ∈ ps, isN (arS l) 1 t) → (∀ t ∈ qs, isN (arS l) 1 t) →
  (UniP θ (zipP b b' ps qs) ↔ subV θ (ps.flatten.map (shC b)) = subV θ (qs.flatten.map (shC b'))) := by
 intro ps
 induction ps with
 | nil =>
  intro qs hl _ _
  have : qs = [] := List.length_eq_zero_iff.1 hl.symm
  subst this
  exact ⟨fun _ => rfl, fun _ e he => by cases he⟩
 | cons p ps ih =>
  intro qs hl hp hq
  cases qs with
  | nil => cases hl
  | cons q qs =>
   have hl' : ps.length = qs.length := by simpa using hl
   have h1 := ih qs hl' (fun t ht => hp t (List.mem_cons_of_mem _ ht)) (fun t ht => hq t (List.mem_cons_of_mem _ ht))
   have h2 := isN_flatten (fun t ht => hp t (List.mem_cons_of_mem _ ht)) (ps := ps)
   have h3 := isN_flatten (fun t ht => hq t (List.mem_cons_of_mem _ ht)) (ps := qs)
   rw [← hl'] at h3
   rw [List.flatten_cons, List.flatten_cons, List.map_append, List.map_append, uni_rows (arU_var l) hg (lg_isN hb _ _ (hp p (List.mem_cons_self ..))) (lg_isN hb' _ _ (hq q (List.mem_cons_self ..))) (lg_isN hb _ _ h2) (lg_isN hb' _ _ h3), ← h1]
   constructor
   ·intro h
    exact ⟨h ((p, b), (q, b')) (List.mem_cons_self ..), fun e he => h e (List.mem_cons_of_mem _ he)⟩
   ·rintro ⟨h4, h5⟩ e he
    rcases List.mem_cons.1 he with rfl | he
    ·exact h4
    ·exact h5 e he
theorem zip_sz {b b' : Nat} (ς : Int → List Int) : ∀ (ps qs : List (List Int)), ps.length = qs.length → szP ς (zipP b b' ps qs) = (subV ς (ps.flatten.map (shC b))).length := by
 intro ps
 induction ps with
 | nil => intro qs _; cases qs <;> rfl
 | cons p ps ih =>
  intro qs hl
  cases qs with
  | nil => cases hl
  | cons q qs =>
   have := ih qs (by simpa using hl)
   show (subV ς (lg (p, b))).length + szP ς (zipP b b' ps qs) = _
   rw [this, List.flatten_cons, List.map_append, subV_append, List.length_append]
   rfl
theorem zip_mem {b b' : Nat} {ps qs : List (List Int)} {e : Pc × Pc} (h : e ∈ zipP b b' ps qs) : e.1.1 ∈ ps ∧ e.1.2 = b ∧ e.2.1 ∈ qs ∧ e.2.2 = b' := by
 induction ps generalizing qs with
 | nil => cases h
 | cons p ps ih =>
  cases qs with
  | nil => cases h
  | cons q qs =>
   rcases List.mem_cons.1 h with rfl | h
   ·exact ⟨List.mem_cons_self .., rfl, List.mem_cons_self .., rfl⟩
   ·obtain ⟨h1, h2, h3, h4⟩ := ih h
    exact ⟨List.mem_cons_of_mem _ h1, h2, List.mem_cons_of_mem _ h3, h4⟩
theorem zip_len {b b' : Nat} (ps qs : List (List Int)) (h : ps.length = qs.length) : (zipP b b' ps qs).length = ps.length := by
 unfold zipP
 rw [List.length_zipWith]
 omega
theorem uni_top {θ : Int → List Int} {t : List (Pc × Pc)} (h : t.length ≠ 0) : UniP θ t ↔ UniP θ (t.take (t.length - 1)) ∧ subV θ (lg (topP t).1) = subV θ (lg (topP t).2) := by
 obtain ⟨hm, htk⟩ := top_mem (d := (pc0, pc0)) h
 constructor
 ·intro hu
  exact ⟨fun e he => hu e (List.mem_of_mem_take he), hu _ hm⟩
 ·rintro ⟨h1, h2⟩ e he
  rw [htk] at he
  rcases List.mem_append.1 he with he | he
  ·exact h1 e he
  ·rw [List.mem_singleton] at he
   rw [he]
   exact h2
theorem same_ev {l : List S59} (hsg : SignOk l) : ∀ (N S : Nat) (σ : List Pc) (t : List (Pc × Pc)) (ς : Int → List Int), fr σ ≤ N → szP ς t ≤ S → StOk l σ → Solved (arU l) (tau σ) ς → TdOk l t → Pot (tau σ) t (10000 * (49 - fr σ)) →
  ∃ q, Ev (fun k => sameF l k σ t) q ∧ match q with
   | none => ∀ θ, GoodA (arU l) θ → Resp θ (tau σ) → ¬ UniP θ t
   | some σ' => StOk l σ' ∧ (∃ ς', Solved (arU l) (tau σ') ς') ∧ (∀ θ, GoodA (arU l) θ → ((Resp θ (tau σ) ∧ UniP θ t) ↔ Resp θ (tau σ'))) := by
 intro N
 induction N using Nat.strongRecOn with
 | _ N ihN =>
 intro S
 induction S using Nat.strongRecOn with
 | _ S ihS =>
 intro σ t ς hN hS hst hs htd hpot
 by_cases ht : t.length = 0
 ·have ht' : t = [] := List.length_eq_zero_iff.1 ht
  refine ⟨some σ, Ev.step (f := fun _ => some (some σ)) (fun k => ?_) (Ev.now _), hst, ⟨ς, hs⟩, fun θ _ => ⟨fun h => h.1, fun h => ⟨h, fun e he => by rw [ht'] at he; cases he⟩⟩⟩
  simp only [sameF]
  rw [if_pos ht]
 ·obtain ⟨hm, htk⟩ := top_mem (d := (pc0, pc0)) ht
  have htop : t[t.length - 1]? = some (topP t) := by
   unfold topP
   rw [List.getD_eq_getElem?_getD, List.getElem?_eq_getElem (by omega)]
   rfl
  obtain ⟨h, hrk, hp⟩ := hpot
  obtain ⟨n0, hn0, hn0b⟩ := hp _ _ htop
  have hfr := fr_le σ
  obtain ⟨hp1, hp2⟩ := htd _ hm
  change PcOk l (topP t).1 at hp1
  change PcOk l (topP t).2 at hp2
  obtain ⟨x, ex, hx, hxs, hxf, hxd⟩ := what_ev hst hs _ hp1
  obtain ⟨y, ey, hy, hys, hyf, hyd⟩ := what_ev hst hs _ hp2
  have htd' : TdOk l (t.take (t.length - 1)) := fun e he => htd e (List.mem_of_mem_take he)
  have hsz : szP ς t = szP ς (t.take (t.length - 1)) + (subV ς (lg x)).length := by
   rw [hxs ς hs.resp]
   conv => lhs; rw [htk]
   rw [szP_append]
   simp only [szP]
   rfl
  have hxpos : 1 ≤ (subV ς (lg x)).length := isN_pos (subA_isN (arU_var l) hs.good _ _ hx.lg)
  have htop' : ∀ θ, Resp θ (tau σ) → (UniP θ t ↔ UniP θ (t.take (t.length - 1)) ∧ subV θ (lg x) = subV θ (lg y)) := by
   intro θ hr
   rw [uni_top ht, hxs θ hr, hys θ hr]
  have hstep : Ev (fun k => if rd x.1 0 < 0 then (putF k σ x y).bind fun q => match q with | none => some none | some σ' => sameF l k σ' (t.take (t.length - 1))
    else if rd y.1 0 < 0 then (putF k σ y x).bind fun q => match q with | none => some none | some σ' => sameF l k σ' (t.take (t.length - 1))
    else if rd x.1 0 ≠ rd y.1 0 then some none
    else if (pcs l (y.1.drop 1)).length < (pcs l (x.1.drop 1)).length then none else sameF l k σ (pairsV l (t.take (t.length - 1)) (x.1.drop 1, x.2) (y.1.drop 1, y.2))) = Ev (fun k => if rd x.1 0 < 0 then (putF k σ x y).bind fun q => match q with | none => some none | some σ' => sameF l k σ' (t.take (t.length - 1))
    else if rd y.1 0 < 0 then (putF k σ y x).bind fun q => match q with | none => some none | some σ' => sameF l k σ' (t.take (t.length - 1))
    else if rd x.1 0 ≠ rd y.1 0 then some none
    else if (pcs l (y.1.drop 1)).length < (pcs l (x.1.drop 1)).length then none else sameF l k σ (pairsV l (t.take (t.length - 1)) (x.1.drop 1, x.2) (y.1.drop 1, y.2))) := rfl
  have hlen : t.length ≤ 1000000000 := by omega
  have lift : ∀ (g : Nat → Option (Option (List Pc))) q, (∀ k, (if rd x.1 0 < 0 then (putF k σ x y).bind fun q => match q with | none => some none | some σ' => sameF l k σ' (t.take (t.length - 1))
    else if rd y.1 0 < 0 then (putF k σ y x).bind fun q => match q with | none => some none | some σ' => sameF l k σ' (t.take (t.length - 1))
    else if rd x.1 0 ≠ rd y.1 0 then some none
    else if (pcs l (y.1.drop 1)).length < (pcs l (x.1.drop 1)).length then none else sameF l k σ (pairsV l (t.take (t.length - 1)) (x.1.drop 1, x.2) (y.1.drop 1, y.2))) = g k) → Ev g q → Ev (fun k => sameF l k σ t) q := by
   intro g q hg hq
   refine Ev.step (f := fun k => (whatF σ k (topP t).1).bind fun x => (whatF σ k (topP t).2).bind fun y => if rd x.1 0 < 0 then (putF k σ x y).bind fun q => match q with | none => some none | some σ' => sameF l k σ' (t.take (t.length - 1))
    else if rd y.1 0 < 0 then (putF k σ y x).bind fun q => match q with | none => some none | some σ' => sameF l k σ' (t.take (t.length - 1))
    else if rd x.1 0 ≠ rd y.1 0 then some none
    else if (pcs l (y.1.drop 1)).length < (pcs l (x.1.drop 1)).length then none else sameF l k σ (pairsV l (t.take (t.length - 1)) (x.1.drop 1, x.2) (y.1.drop 1, y.2))) (fun k => ?_) (Ev.bind ex (Ev.bind ey ?_))
   ·simp only [sameF]
    rw [if_neg ht, if_neg (by omega)]
   ·obtain ⟨n, hn⟩ := hq
    exact ⟨n, fun k hk => (hg k).trans (hn k hk)⟩
  clear hstep
  -- a variable is bound, or nothing is done
  have useput : ∀ (p : Nat → Option (Option (List Pc))) (q : Option (List Pc)), Ev p q → (match q with
     | none => ∀ θ, GoodA (arU l) θ → Resp θ (tau σ) → subV θ (lg x) ≠ subV θ (lg y)
     | some σ' => StOk l σ' ∧ (∃ ς', Solved (arU l) (tau σ') ς') ∧ (∀ θ, (Resp θ (tau σ) ∧ subV θ (lg x) = subV θ (lg y)) ↔ Resp θ (tau σ')) ∧ (σ' = σ ∨ fr σ' < fr σ)) →
    ∃ q, Ev (fun k => (p k).bind fun q => match q with | none => some none | some σ' => sameF l k σ' (t.take (t.length - 1))) q ∧ match q with
     | none => ∀ θ, GoodA (arU l) θ → Resp θ (tau σ) → ¬ UniP θ t
     | some σ' => StOk l σ' ∧ (∃ ς', Solved (arU l) (tau σ') ς') ∧ (∀ θ, GoodA (arU l) θ → ((Resp θ (tau σ) ∧ UniP θ t) ↔ Resp θ (tau σ'))) := by
   intro p q hq hspec
   cases q with
   | none =>
    refine ⟨none, Ev.bind hq (Ev.now _), fun θ hg hr hu => ?_⟩
    exact hspec θ hg hr ((htop' θ hr).1 hu).2
   | some σ' =>
    obtain ⟨b1, ⟨ς', b2⟩, b3, b4⟩ := hspec
    have hrec : ∃ q, Ev (fun k => sameF l k σ' (t.take (t.length - 1))) q ∧ match q with
      | none => ∀ θ, GoodA (arU l) θ → Resp θ (tau σ') → ¬ UniP θ (t.take (t.length - 1))
      | some σ'' => StOk l σ'' ∧ (∃ ς', Solved (arU l) (tau σ'') ς') ∧ (∀ θ, GoodA (arU l) θ → ((Resp θ (tau σ') ∧ UniP θ (t.take (t.length - 1))) ↔ Resp θ (tau σ''))) := by
     have hget : ∀ (i : Nat) (e : Pc × Pc), (t.take (t.length - 1))[i]? = some e → t[i]? = some e := by
      intro i e hi
      rw [List.getElem?_take] at hi
      split at hi
      ·exact hi
      ·cases hi
     rcases b4 with rfl | b4
     ·exact ihS _ (by omega) σ' _ ς hN (Nat.le_refl _) b1 hs htd' ⟨h, hrk, fun i e hi => hp i e (hget i e hi)⟩
     ·obtain ⟨h', hrk'⟩ := b2.rank (arU_var l)
      refine ihN (fr σ') (by omega) _ σ' _ ς' (Nat.le_refl _) (Nat.le_refl _) b1 b2 htd' ⟨h', hrk', fun i e hi => ?_⟩
      obtain ⟨n, _, hb⟩ := hp i e (hget i e hi)
      refine ⟨2400, hrk'.any ?_, by omega⟩
      rw [lg_length]
      exact (htd' e (List.mem_of_getElem? hi)).1.len
    obtain ⟨q, c1, c2⟩ := hrec
    refine ⟨q, Ev.bind hq c1, ?_⟩
    cases q with
    | none =>
     intro θ hg hr hu
     have h2 := (htop' θ hr).1 hu
     exact c2 θ hg ((b3 θ).1 ⟨hr, h2.2⟩) h2.1
    | some σ'' =>
     obtain ⟨d1, d2, d3⟩ := c2
     refine ⟨d1, d2, fun θ hg => ?_⟩
     rw [← d3 θ hg, ← b3 θ]
     constructor
     ·rintro ⟨hr, hu⟩
      have h2 := (htop' θ hr).1 hu
      exact ⟨⟨hr, h2.2⟩, h2.1⟩
     ·rintro ⟨⟨hr, h2⟩, h1⟩
      exact ⟨hr, (htop' θ hr).2 ⟨h1, h2⟩⟩
  by_cases hxv : rd x.1 0 < 0
  ·obtain ⟨q, c1, c2⟩ := put_ev hst hs x y hx hy hxv (hxf hxv) hyf
   obtain ⟨q', d1, d2⟩ := useput _ q c1 c2
   exact ⟨q', lift _ q' (fun k => if_pos hxv) d1, d2⟩
  ·by_cases hyv : rd y.1 0 < 0
   ·obtain ⟨q, c1, c2⟩ := put_ev hst hs y x hy hx hyv (hyf hyv) hxf
    obtain ⟨q', d1, d2⟩ := useput _ q c1 (by
     cases q with
     | none => exact fun θ hg hr e => c2 θ hg hr e.symm
     | some σ' =>
      obtain ⟨b1, b2, b3, b4⟩ := c2
      exact ⟨b1, b2, fun θ => by rw [← b3 θ]; exact ⟨fun h => ⟨h.1, h.2.symm⟩, fun h => ⟨h.1, h.2.symm⟩⟩, b4⟩)
    exact ⟨q', lift _ q' (fun k => by rw [if_neg hxv, if_pos hyv]) d1, d2⟩
   ·obtain ⟨c, r, m, e, e1, a1, a2, a3, a4⟩ := hx.head
    obtain ⟨d, s, m', f, f1, g1, g2, g3, g4⟩ := hy.head
    rw [e1] at hxv
    rw [f1] at hyv
    have hc0 : 0 ≤ c := by omega
    have hd0 : 0 ≤ d := by omega
    rw [shC_pos hc0] at a3
    rw [shC_pos hd0] at g3
    by_cases hcd : c = d
    ·subst hcd
     have hmm : m = m' := by rw [a1] at g1; exact Option.some.inj g1
     subst hmm
     have hm3 := arS_le hsg a1
     have ed : x.1.drop 1 = r := by rw [e]; rfl
     have fd : y.1.drop 1 = s := by rw [f]; rfl
     have pr := parts_flatten a2
     have ps := parts_flatten g2
     rw [← pcs_row a2] at pr
     rw [← pcs_row g2] at ps
     have hll : (pcs l r).length = (pcs l s).length := by rw [pr.2.1, ps.2.1]
     have hzs : szP ς (zipP x.2 y.2 (pcs l r) (pcs l s)) + 1 = (subV ς (lg x)).length := by
      rw [zip_sz ς _ _ hll, pr.1, a3]
      simp only [subV, List.length_append]
      rw [subC_pos ς hc0]
      simp
      omega
     have hrec := ihS (szP ς (t.take (t.length - 1)) + szP ς (zipP x.2 y.2 (pcs l r) (pcs l s))) (by omega) σ (pairsV l (t.take (t.length - 1)) (x.1.drop 1, x.2) (y.1.drop 1, y.2)) ς hN
      (by unfold pairsV; rw [ed, fd, szP_append]; exact Nat.le_refl _) hst hs ?_ ?_
     ·obtain ⟨q, c1, c2⟩ := hrec
      refine ⟨q, lift _ q (fun k => by rw [if_neg (by rw [e1]; exact hxv), if_neg (by rw [f1]; exact hyv), if_neg (by rw [e1, f1]; simp), if_neg (by rw [ed, fd]; omega)]) c1, ?_⟩
      have hu : ∀ θ, GoodA (arU l) θ → Resp θ (tau σ) → (UniP θ t ↔ UniP θ (pairsV l (t.take (t.length - 1)) (x.1.drop 1, x.2) (y.1.drop 1, y.2))) := by
       intro θ hg hr
       rw [htop' θ hr, a3, g3, uni_heads hc0 hc0]
       unfold pairsV
       rw [ed, fd]
       have hz := zip_uni hx.by_ hy.by_ hg (pcs l r) (pcs l s) hll pr.2.2 ps.2.2
       rw [pr.1, ps.1] at hz
       constructor
       ·rintro ⟨h1, _, h2⟩ e he
        rcases List.mem_append.1 he with he | he
        ·exact h1 e he
        ·exact hz.2 h2 e he
       ·intro h1
        exact ⟨fun e he => h1 e (List.mem_append.2 (.inl he)), rfl, hz.1 (fun e he => h1 e (List.mem_append.2 (.inr he)))⟩
      cases q with
      | none => exact fun θ hg hr hu2 => c2 θ hg hr ((hu θ hg hr).1 hu2)
      | some σ' =>
       obtain ⟨d1, d2, d3⟩ := c2
       refine ⟨d1, d2, fun θ hg => ?_⟩
       rw [← d3 θ hg]
       exact ⟨fun h => ⟨h.1, (hu θ hg h.1).1 h.2⟩, fun h => ⟨h.1, (hu θ hg h.1).2 h.2⟩⟩
     ·unfold pairsV
      rw [ed, fd]
      intro z hz
      rcases List.mem_append.1 hz with hz | hz
      ·exact htd' z hz
      ·obtain ⟨z1, z2, z3, z4⟩ := zip_mem hz
       have hxl := hx.len
       have hyl := hy.len
       rw [e, List.length_cons] at hxl
       rw [f, List.length_cons] at hyl
       have q1 := (pcs_mem r.length r (Nat.le_refl _)).2 _ z1
       have q2 := (pcs_mem s.length s (Nat.le_refl _)).2 _ z3
       exact ⟨⟨q1.1, by rw [z2]; exact hx.by_, by omega⟩, ⟨q2.1, by rw [z4]; exact hy.by_, by omega⟩⟩
     ·refine ⟨h, hrk, fun i z hi => ?_⟩
      unfold pairsV at hi
      rw [ed, fd] at hi
      by_cases hil : i < (t.take (t.length - 1)).length
      ·rw [List.getElem?_append_left hil, List.getElem?_take] at hi
       split at hi
       ·exact hp i z hi
       ·cases hi
      ·rw [List.getElem?_append_right (by omega)] at hi
       have hzm := List.mem_of_getElem? hi
       have hzl := (List.getElem?_eq_some_iff.1 hi).1
       rw [zip_len _ _ hll, pr.2.1] at hzl
       have htl : (t.take (t.length - 1)).length = t.length - 1 := by rw [List.length_take]; omega
       obtain ⟨z1, z2, _⟩ := zip_mem hzm
       have q1 := (pcs_mem r.length r (Nat.le_refl _)).2 _ z1
       obtain ⟨rr, hr48, hr1, hr2⟩ := hxd h n0 hrk hn0
       rw [a3] at hr1 hr2
       simp only [List.length_cons, List.length_map] at hr2
       refine ⟨n0 - 1, ⟨rr, hr48, fun w hw hw0 => ?_, ?_⟩, by omega⟩
       ·unfold lg at hw
        obtain ⟨w', hw1, rfl⟩ := List.mem_map.1 hw
        rw [z2] at hw0 ⊢
        exact hr1 _ (List.mem_cons_of_mem _ (List.mem_map.2 ⟨w', q1.2.2 w' hw1, rfl⟩)) hw0
       ·rw [lg_length]
        omega
    ·refine ⟨none, lift _ none (fun k => by rw [if_neg (by rw [e1]; exact hxv), if_neg (by rw [f1]; exact hyv), if_pos (by rw [e1, f1]; exact hcd)]) (Ev.now _), fun θ hg hr hu => ?_⟩
     have h2 := ((htop' θ hr).1 hu).2
     rw [a3, g3, uni_heads hc0 hd0] at h2
     exact hcd h2.1
end Go.Proofs.YteffiodbflmfkaaDoor.PP
namespace Go.Proofs.YteffiodbflmfkaaDoor.PP
open Go Go.RowKit Go.Proofs.YteffiodbflmfkaaDoorW.PrintWords Go.Proofs.YteffiodbflmfkaaDoorW.PrintLast Go.Proofs.YteffiodbflmfkaaDoor
set_option linter.unusedVariables false
set_option linter.unusedSimpArgs false
def refw (σ : List (List Int)) (c : Int) : List Int := σ.getD (-1 - c).toNat []
def walkF (σ : List (List Int)) : Nat → List Int → Option (List Int)
 | 0, _ => none
 | k + 1, t => if t.length = 1 ∧ rd t 0 < 0 ∧ refw σ (rd t 0) ≠ [] then walkF σ k (refw σ (rd t 0)) else some t
def insideL (f : List Int → Option Bool) (σ : List (List Int)) (v : Nat) : List Int → Option Bool
 | [] => some false
 | c :: r => if 0 ≤ c then insideL f σ v r else if (-1 - c).toNat = v then some true else if refw σ c ≠ [] then (f (refw σ c)).bind fun b => if b = true then some true else insideL f σ v r else insideL f σ v r
def insideF (σ : List (List Int)) (v : Nat) : Nat → List Int → Option Bool
 | 0, _ => none
 | k + 1, t => insideL (insideF σ v k) σ v t
def pair1F (k : Nat) (σ : List (List Int)) (x t : List Int) (both : Bool) : Option (Option (List (List Int))) :=
 if both = true then some (some (σ.set (-1 - rd t 0).toNat x)) else (insideF σ (-1 - rd x 0).toNat k t).bind fun b => some (if b = true then none else some (σ.set (-1 - rd x 0).toNat t))
def allL (f : List (List Int) → List Int → List Int → Option (Option (List (List Int)))) : List (List Int) → List (List Int) → List (List Int) → Option (Option (List (List Int)))
 | σ, a :: xs, b :: ys => (f σ a b).bind fun q => match q with | none => some none | some σ' => allL f σ' xs ys
 | σ, [], _ => some (some σ)
 | _, _ :: _, [] => none
def pcsU (l : List S59) (r : List Int) : List (List Int) := parts (arU l) r.length r
def pairF (l : List S59) : Nat → List (List Int) → List Int → List Int → Option (Option (List (List Int)))
 | 0, _, _, _ => none
 | k + 1, σ, a, b => (walkF σ k a).bind fun a => (walkF σ k b).bind fun b =>
  if a = b then some (some σ)
  else if rd a 0 < 0 ∧ rd b 0 < 0 ∧ rd a 0 < rd b 0 ∨ 0 ≤ rd a 0 ∧ rd b 0 < 0 then pair1F k σ b a (decide (rd a 0 < 0))
  else if rd a 0 < 0 then pair1F k σ a b (decide (rd b 0 < 0))
  else if rd a 0 ≠ rd b 0 then some none
  else allL (pairF l k) σ (pcsU l (a.drop 1)) (pcsU l (b.drop 1))
def fullL (f : List Int → List Int → Option (List Int)) (σ : List (List Int)) : List Int → List Int → Option (List Int)
 | [], out => some out
 | c :: r, out => if 48 < out.length then some out else if c < 0 ∧ refw σ c ≠ [] then (f out (refw σ c)).bind fun o => fullL f σ r o else fullL f σ r (out ++ [c])
def fullF (σ : List (List Int)) : Nat → List Int → List Int → Option (List Int)
 | 0, _, _ => none
 | k + 1, out, t => fullL (fullF σ k) σ t out

/-! what they mean -/
def tauR (σ : List (List Int)) (c : Int) : List Int := if c < 0 then refw σ c else []
def RtOk (l : List S59) (t : List Int) : Prop := isN (arU l) 1 t ∧ t.length ≤ 48
def SrOk (l : List S59) (σ : List (List Int)) : Prop := σ.length = 48 ∧ ∀ w, σ.getD w [] ≠ [] → RtOk l (σ.getD w [])
def frR (σ : List (List Int)) : Nat := (List.range 48).countP (fun w => (σ.getD w []).isEmpty)
theorem tauR_neg {σ : List (List Int)} {c : Int} (h : c < 0) : tauR σ c = refw σ c := if_pos h
theorem RtOk.head {l : List S59} {t : List Int} (h : RtOk l t) : ∃ c r m, t = c :: r ∧ rd t 0 = c ∧ arU l c = some m ∧ isN (arU l) m r ∧ (c < 0 → r = []) := by
 obtain ⟨c, r, m, e, h1, h2⟩ := isN_one h.1
 exact ⟨c, r, m, e, by rw [e]; rfl, h1, h2, fun hc => isN_var_eq (arU_var l) hc (by rw [← e]; exact h.1)⟩
theorem walk_ev {l : List S59} {σ : List (List Int)} {ς : Int → List Int} (hst : SrOk l σ) (hs : Solved (arU l) (tauR σ) ς) (t : List Int) (ht : RtOk l t) :
  ∃ u, Ev (fun k => walkF σ k t) u ∧ RtOk l u ∧ (∀ θ, Resp θ (tauR σ) → subV θ u = subV θ t) ∧ (rd u 0 < 0 → refw σ (rd u 0) = []) := by
 have triv : ∀ t, RtOk l t → ¬ (rd t 0 < 0 ∧ refw σ (rd t 0) ≠ []) → ∃ u, Ev (fun k => walkF σ k t) u ∧ RtOk l u ∧ (∀ θ, Resp θ (tauR σ) → subV θ u = subV θ t) ∧ (rd u 0 < 0 → refw σ (rd u 0) = []) := by
  intro t ht hn
  refine ⟨t, Ev.step (f := fun _ => some t) (fun k => ?_) (Ev.now _), ht, fun _ _ => rfl, fun h => ?_⟩
  ·simp only [walkF]
   rw [if_neg (fun h => hn h.2)]
  ·exact Classical.byContradiction fun h2 => hn ⟨h, h2⟩
 have key : ∀ c, c < 0 → arU l c ≠ none → ∀ t, RtOk l t → t = [c] → ∃ u, Ev (fun k => walkF σ k t) u ∧ RtOk l u ∧ (∀ θ, Resp θ (tauR σ) → subV θ u = subV θ t) ∧ (rd u 0 < 0 → refw σ (rd u 0) = []) := by
  refine hs.induct (arU_var l) (fun c hc ha ih t ht he => ?_)
  subst he
  have e1 : rd [c] 0 = c := rfl
  by_cases hb : refw σ c = []
  ·exact triv _ ht (fun h => h.2 (by rw [e1]; exact hb))
  ·have hq : RtOk l (refw σ c) := hst.2 _ hb
   have hne : tauR σ c ≠ [] := by rw [tauR_neg hc]; exact hb
   have hstep : ∀ q, Ev (fun k => walkF σ k (refw σ c)) q → Ev (fun k => walkF σ k [c]) q := by
    intro q hq
    refine Ev.step (f := fun k => walkF σ k (refw σ c)) (fun k => ?_) hq
    simp only [walkF]
    rw [if_pos ⟨rfl, by rw [e1]; exact hc, by rw [e1]; exact hb⟩, e1]
   have hsub : ∀ θ, Resp θ (tauR σ) → subV θ (refw σ c) = subV θ [c] := by
    intro θ hr
    rw [sub_one, subC_neg θ hc, hr c hc hne, tauR_neg hc]
   have : ∃ u, Ev (fun k => walkF σ k (refw σ c)) u ∧ RtOk l u ∧ (∀ θ, Resp θ (tauR σ) → subV θ u = subV θ (refw σ c)) ∧ (rd u 0 < 0 → refw σ (rd u 0) = []) := by
    by_cases hn : rd (refw σ c) 0 < 0
    ·obtain ⟨d, r, m, e, e2, _, _, h3⟩ := hq.head
     rw [e2] at hn
     have hr := h3 hn
     rw [hr] at e
     have hd : d ∈ tauR σ c := by rw [tauR_neg hc, e]; simp
     exact ih hne d hd hn _ hq e
    ·exact triv _ hq (fun h => hn h.1)
   obtain ⟨u, h1, h2, h3, h4⟩ := this
   exact ⟨u, hstep u h1, h2, fun θ hr => by rw [h3 θ hr, hsub θ hr], h4⟩
 by_cases hn : rd t 0 < 0
 ·obtain ⟨c, r, m, e, e1, a1, _, h3⟩ := ht.head
  rw [e1] at hn
  have hr := h3 hn
  rw [hr] at e
  exact key c hn (by rw [a1]; simp) t ht e
 ·exact triv t ht (fun h => hn h.1)
theorem inside_ev {l : List S59} {σ : List (List Int)} {ς : Int → List Int} (hst : SrOk l σ) (hs : Solved (arU l) (tauR σ) ς) {v : Nat} (hf : σ.getD v [] = []) (t : List Int) (ht : ∀ c ∈ t, arU l c ≠ none) :
  ∃ b, Ev (fun k => insideF σ v k t) b ∧ (b = true ↔ (-1 - (v : Int)) ∈ subV ς t) := by
 have hfree : ς (-1 - (v : Int)) = [-1 - (v : Int)] := by
  refine hs.free _ (by omega) ?_
  rw [tauR_neg (by omega)]
  unfold refw
  rw [show (-1 - (-1 - (v : Int))).toNat = v by omega]
  exact hf
 have loop : ∀ (r : List Int), (∀ c ∈ r, arU l c ≠ none) → (∀ c ∈ r, c < 0 → refw σ c ≠ [] → ∃ b, Ev (fun k => insideF σ v k (refw σ c)) b ∧ (b = true ↔ (-1 - (v : Int)) ∈ ς c)) →
   ∃ b, Ev (fun k => insideL (insideF σ v k) σ v r) b ∧ (b = true ↔ (-1 - (v : Int)) ∈ subV ς r) := by
  intro r
  induction r with
  | nil => intro _ _; exact ⟨false, Ev.now _, by simp [subV]⟩
  | cons c r ih =>
   intro ha hp
   obtain ⟨b, hb, hiff⟩ := ih (fun d hd => ha d (List.mem_cons_of_mem _ hd)) (fun d hd => hp d (List.mem_cons_of_mem _ hd))
   simp only [insideL, subV, List.mem_append]
   by_cases hc : 0 ≤ c
   ·refine ⟨b, Ev.if_pos hc hb, ?_⟩
    rw [subC_pos ς hc, List.mem_singleton, hiff]
    exact ⟨Or.inr, fun h => h.resolve_left (fun e => by omega)⟩
   ·have hc0 : c < 0 := by omega
    rw [subC_neg ς hc0]
    by_cases hv : (-1 - c).toNat = v
    ·refine ⟨true, Ev.if_neg hc (Ev.if_pos hv (Ev.now _)), fun _ => .inl ?_, fun _ => rfl⟩
     have : c = -1 - (v : Int) := by omega
     rw [this, hfree]
     simp
    ·by_cases hbd : refw σ c ≠ []
     ·obtain ⟨b1, h1, h2⟩ := hp c (List.mem_cons_self ..) hc0 hbd
      cases b1 with
      | true => exact ⟨true, Ev.if_neg hc (Ev.if_neg hv (Ev.if_pos hbd (Ev.bind h1 (Ev.if_pos rfl (Ev.now _))))), fun _ => .inl (h2.1 rfl), fun _ => rfl⟩
      | false =>
       refine ⟨b, Ev.if_neg hc (Ev.if_neg hv (Ev.if_pos hbd (Ev.bind h1 (Ev.if_neg (by simp) hb)))), ?_⟩
       rw [hiff]
       exact ⟨Or.inr, fun h => h.resolve_left (fun e => by have := h2.2 e; cases this)⟩
     ·refine ⟨b, Ev.if_neg hc (Ev.if_neg hv (Ev.if_neg hbd hb)), ?_⟩
      have hbd : refw σ c = [] := Classical.byContradiction hbd
      rw [hs.free c hc0 (by rw [tauR_neg hc0]; exact hbd), List.mem_singleton, hiff]
      exact ⟨Or.inr, fun h => h.resolve_left (fun e => by omega)⟩
 have key : ∀ c, c < 0 → arU l c ≠ none → refw σ c ≠ [] → ∃ b, Ev (fun k => insideF σ v k (refw σ c)) b ∧ (b = true ↔ (-1 - (v : Int)) ∈ ς c) := by
  refine hs.induct (arU_var l) (fun c hc ha ih hb => ?_)
  have hne : tauR σ c ≠ [] := by rw [tauR_neg hc]; exact hb
  have hq : RtOk l (refw σ c) := hst.2 _ hb
  obtain ⟨b, h1, h2⟩ := loop (refw σ c) (fun d hd => isN_ar hq.1 hd) (fun d hd hd0 => ih hne d (by rw [tauR_neg hc]; exact hd) hd0)
  refine ⟨b, Ev.step (f := fun k => insideL (insideF σ v k) σ v (refw σ c)) (fun k => by simp only [insideF]) h1, ?_⟩
  rw [h2, hs.resp c hc hne, tauR_neg hc]
 obtain ⟨b, h1, h2⟩ := loop t ht (fun c hc hc0 => key c hc0 (ht c hc))
 exact ⟨b, Ev.step (f := fun k => insideL (insideF σ v k) σ v t) (fun k => by simp only [insideF]) h1, h2⟩
theorem getD_same {σ : List (List Int)} {w : Nat} {y : List Int} (h : w < σ.length) : (σ.set w y).getD w [] = y := by simp [List.getD_eq_getElem?_getD, h]
theorem getD_other {σ : List (List Int)} {w v : Nat} {y : List Int} (h : v ≠ w) : (σ.set w y).getD v [] = σ.getD v [] := by
 rw [List.getD_eq_getElem?_getD, List.getElem?_set, if_neg (fun e => h (Eq.symm e)), ← List.getD_eq_getElem?_getD]
theorem frR_set {σ : List (List Int)} {w : Nat} {y : List Int} (hl : σ.length = 48) (hw : w < 48) (hf : σ.getD w [] = []) (hy : y ≠ []) : frR (σ.set w y) < frR σ := by
 refine countP_lt _ (fun v _ h => ?_) ⟨w, by simpa using hw, by rw [hf]; rfl, ?_⟩
 ·by_cases e : v = w
  ·subst e
   rw [getD_same (by omega)] at h
   exact absurd (List.isEmpty_iff.1 h) hy
  ·rwa [getD_other e] at h
 ·rw [getD_same (by omega)]
  simpa using hy
theorem tauR_set {σ : List (List Int)} {c : Int} {y : List Int} (hc : c < 0) (hlo : -48 ≤ c) (hl : σ.length = 48) : tauR (σ.set (-1 - c).toNat y) = upd (tauR σ) c y := by
 funext d
 by_cases hd : d = c
 ·subst hd
  rw [upd_same, tauR_neg hc]
  exact getD_same (by omega)
 ·rw [upd_other _ _ hd]
  unfold tauR
  by_cases h0 : d < 0
  ·rw [if_pos h0, if_pos h0]
   exact getD_other (by omega)
  ·rw [if_neg h0, if_neg h0]
theorem bindR_step {l : List S59} {σ : List (List Int)} {ς : Int → List Int} (hst : SrOk l σ) (hs : Solved (arU l) (tauR σ) ς) {c : Int} (hc : c < 0) (ha : arU l c ≠ none) (hf : refw σ c = []) {y : List Int} (hy : RtOk l y) (hno : c ∉ subV ς y) (hd : ∀ d, d < 0 → y = [d] → c < d) :
  SrOk l (σ.set (-1 - c).toNat y) ∧ (∃ ς', Solved (arU l) (tauR (σ.set (-1 - c).toNat y)) ς') ∧ (∀ θ, (Resp θ (tauR σ) ∧ θ c = subV θ y) ↔ Resp θ (tauR (σ.set (-1 - c).toNat y))) ∧ frR (σ.set (-1 - c).toNat y) < frR σ := by
 have hlo := arU_lo hc ha
 have hyne : y ≠ [] := by
  intro e
  have := isN_pos hy.1
  rw [e] at this
  simp at this
 have htf : tauR σ c = [] := by rw [tauR_neg hc]; exact hf
 refine ⟨⟨by rw [List.length_set]; exact hst.1, fun v hv => ?_⟩, ?_, ?_, frR_set hst.1 (by omega) hf hyne⟩
 ·by_cases e : v = (-1 - c).toNat
  ·subst e
   rw [getD_same (by have := hst.1; omega)]
   exact hy
  ·rw [getD_other e] at hv ⊢
   exact hst.2 v hv
 ·rw [tauR_set hc hlo hst.1]
  exact ⟨_, hs.bind (arU_var l) hc ha htf hy.1 hno hd⟩
 ·intro θ
  rw [tauR_set hc hlo hst.1]
  exact resp_bind hc htf hyne
/-- What a step of the document's answers: nothing makes both the same; or a store that says what does. -/
def StepR (l : List S59) (σ : List (List Int)) (E : (Int → List Int) → Prop) (q : Option (List (List Int))) : Prop :=
 match q with
 | none => ∀ θ, GoodA (arU l) θ → Resp θ (tauR σ) → ¬ E θ
 | some σ' => SrOk l σ' ∧ (∃ ς', Solved (arU l) (tauR σ') ς') ∧ (∀ θ, GoodA (arU l) θ → ((Resp θ (tauR σ) ∧ E θ) ↔ Resp θ (tauR σ'))) ∧ (σ' = σ ∨ frR σ' < frR σ)
theorem StepR.iff {l : List S59} {σ : List (List Int)} {E E' : (Int → List Int) → Prop} {q : Option (List (List Int))} (h : StepR l σ E q) (he : ∀ θ, GoodA (arU l) θ → Resp θ (tauR σ) → (E θ ↔ E' θ)) : StepR l σ E' q := by
 cases q with
 | none => exact fun θ hg hr h2 => h θ hg hr ((he θ hg hr).2 h2)
 | some σ' =>
  obtain ⟨h1, h2, h3, h4⟩ := h
  refine ⟨h1, h2, fun θ hg => ?_, h4⟩
  rw [← h3 θ hg]
  exact ⟨fun h => ⟨h.1, (he θ hg h.1).2 h.2⟩, fun h => ⟨h.1, (he θ hg h.1).1 h.2⟩⟩
theorem pair1_ev {l : List S59} {σ : List (List Int)} {ς : Int → List Int} (hst : SrOk l σ) (hs : Solved (arU l) (tauR σ) ς) {x t : List Int} (hx : RtOk l x) (ht : RtOk l t) (hxv : rd x 0 < 0) (hxf : refw σ (rd x 0) = []) (htf : rd t 0 < 0 → refw σ (rd t 0) = [] ∧ rd t 0 < rd x 0) :
  ∃ q, Ev (fun k => pair1F k σ x t (decide (rd t 0 < 0))) q ∧ StepR l σ (fun θ => subV θ x = subV θ t) q := by
 obtain ⟨c, r, m, e, e1, a1, _, h3⟩ := hx.head
 rw [e1] at hxv hxf htf
 have hr := h3 hxv
 subst hr
 have hca : arU l c ≠ none := by rw [a1]; simp
 have hcf : ς c = [c] := hs.free c hxv (by rw [tauR_neg hxv]; exact hxf)
 obtain ⟨d, s, m', f, f1, b1, _, g3⟩ := ht.head
 by_cases hd : d < 0
 ·have hs' := g3 hd
  subst hs'
  rw [f1] at htf
  obtain ⟨hdf, hdc⟩ := htf hd
  have hds : ς d = [d] := hs.free d hd (by rw [tauR_neg hd]; exact hdf)
  obtain ⟨b1', b2, b3, b4⟩ := bindR_step hst hs hd (by rw [b1]; simp) hdf hx (by rw [e, sub_one, subC_neg ς hxv, hcf, List.mem_singleton]; omega) (fun z hz0 hz => by rw [e] at hz; injection hz with hz _; omega)
  refine ⟨some (σ.set (-1 - d).toNat x), ⟨0, fun k _ => ?_⟩, b1', b2, fun θ _ => ?_, .inr b4⟩
  ·simp only [pair1F]
   rw [f1, if_pos (by simpa using hd)]
  ·rw [← b3 θ]
   have : subV θ t = θ d := by rw [f, sub_one, subC_neg θ hd]
   show (_ ∧ subV θ x = subV θ t) ↔ _
   rw [this]
   exact ⟨fun h => ⟨h.1, h.2.symm⟩, fun h => ⟨h.1, h.2.symm⟩⟩
 ·obtain ⟨b, hb, hiff⟩ := inside_ev hst hs (v := (-1 - c).toNat) hxf t (fun z hz => isN_ar ht.1 hz)
  rw [show -1 - (((-1 - c).toNat : Nat) : Int) = c by omega] at hiff
  have hev : Ev (fun k => pair1F k σ x t (decide (rd t 0 < 0))) (if b = true then none else some (σ.set (-1 - c).toNat t)) := by
   obtain ⟨n, hn⟩ := hb
   refine ⟨n, fun k hk => ?_⟩
   have h1 := hn k hk
   simp only at h1
   simp only [pair1F]
   rw [f1, if_neg (by simpa using hd), e1, h1]
   rfl
  have hxs : ∀ θ : Int → List Int, subV θ x = θ c := fun θ => by rw [e, sub_one, subC_neg θ hxv]
  refine ⟨_, hev, ?_⟩
  cases b with
  | true =>
   rw [if_pos rfl]
   intro θ hg hr
   have hm := hiff.1 rfl
   show ¬ subV θ x = subV θ t
   rw [hxs]
   refine hs.never (arU_var l) hg hr hxv ht.1 hm ?_
   cases s with
   | nil =>
    rw [f, sub_one, subC_pos ς (by omega), List.mem_singleton] at hm
    omega
   | cons z s => rw [f]; simp
  | false =>
   rw [if_neg (by simp)]
   have hno : c ∉ subV ς t := fun h => by have := hiff.2 h; cases this
   obtain ⟨b1', b2, b3, b4⟩ := bindR_step hst hs hxv hca hxf ht hno (fun z hz0 hz => by rw [f] at hz; injection hz with hz _; omega)
   exact ⟨b1', b2, fun θ _ => by show (_ ∧ subV θ x = subV θ t) ↔ _; rw [← b3 θ, hxs], .inr b4⟩

/-! rows -/
theorem pcsU_cons {l : List S59} {t s : List Int} (h : isN (arU l) 1 t) : pcsU l (t ++ s) = t :: pcsU l s := by
 have := isN_pos h
 unfold pcsU
 obtain ⟨k, hk⟩ : ∃ k, (t ++ s).length = k + 1 := ⟨(t ++ s).length - 1, by rw [List.length_append]; omega⟩
 rw [hk, parts_cons h, parts_more s.length s (Nat.le_refl _) k (by rw [List.length_append] at hk; omega)]
theorem pcsU_row {l : List S59} {n : Nat} {r : List Int} (h : isN (arU l) n r) : pcsU l r = parts (arU l) n r := by
 unfold pcsU
 induction n generalizing r with
 | zero =>
  have := isN_zero h
  subst this
  rfl
 | succ n ih =>
  rw [Nat.add_comm] at h
  obtain ⟨t, s, rfl, h1, h2⟩ := isN_split h
  have := pcsU_cons (l := l) (s := s) h1
  unfold pcsU at this
  rw [this, parts_cons h1, ih h2]
theorem mem_flatten_len {ps : List (List Int)} {t : List Int} (h : t ∈ ps) : t.length ≤ ps.flatten.length := by
 induction ps with
 | nil => cases h
 | cons p ps ih =>
  rw [List.flatten_cons, List.length_append]
  rcases List.mem_cons.1 h with rfl | h
  ·omega
  ·have := ih h; omega
theorem pcsU_facts {l : List S59} {n : Nat} {r : List Int} (h : isN (arU l) n r) (hl : r.length ≤ 48) : (pcsU l r).flatten = r ∧ (pcsU l r).length = n ∧ ∀ t ∈ pcsU l r, RtOk l t := by
 have hp := parts_flatten h
 rw [← pcsU_row h] at hp
 refine ⟨hp.1, hp.2.1, fun t ht => ⟨hp.2.2 t ht, ?_⟩⟩
 have := mem_flatten_len ht
 rw [hp.1] at this
 omega
def UniR (θ : Int → List Int) : List (List Int) → List (List Int) → Prop
 | x :: xs, y :: ys => subV θ x = subV θ y ∧ UniR θ xs ys
 | _, _ => True
theorem uniR_iff {l : List S59} {θ : Int → List Int} (hg : GoodA (arU l) θ) : ∀ (ps qs : List (List Int)), ps.length = qs.length → (∀ t ∈ ps, isN (arU l) 1 t) → (∀ t ∈ qs, isN (arU l) 1 t) → (UniR θ ps qs ↔ subV θ ps.flatten = subV θ qs.flatten) := by
 intro ps
 induction ps with
 | nil =>
  intro qs hl _ _
  have : qs = [] := List.length_eq_zero_iff.1 hl.symm
  subst this
  exact ⟨fun _ => rfl, fun _ => trivial⟩
 | cons p ps ih =>
  intro qs hl hp hq
  cases qs with
  | nil => cases hl
  | cons q qs =>
   have hl' : ps.length = qs.length := by simpa using hl
   have h1 := ih qs hl' (fun t ht => hp t (List.mem_cons_of_mem _ ht)) (fun t ht => hq t (List.mem_cons_of_mem _ ht))
   have h2 := isN_flatten (fun t ht => hp t (List.mem_cons_of_mem _ ht)) (ps := ps)
   have h3 := isN_flatten (fun t ht => hq t (List.mem_cons_of_mem _ ht)) (ps := qs)
   rw [← hl'] at h3
   rw [List.flatten_cons, List.flatten_cons, uni_rows (arU_var l) hg (hp p (List.mem_cons_self ..)) (hq q (List.mem_cons_self ..)) h2 h3, ← h1]
   exact Iff.rfl
theorem StepR.seq {l : List S59} {σ σ' : List (List Int)} {E1 E2 : (Int → List Int) → Prop} {q : Option (List (List Int))} (h1 : StepR l σ E1 (some σ')) (h2 : StepR l σ' E2 q) : StepR l σ (fun θ => E1 θ ∧ E2 θ) q := by
 obtain ⟨a1, a2, a3, a4⟩ := h1
 cases q with
 | none => exact fun θ hg hr h => h2 θ hg ((a3 θ hg).1 ⟨hr, h.1⟩) h.2
 | some σ2 =>
  obtain ⟨b1, b2, b3, b4⟩ := h2
  refine ⟨b1, b2, fun θ hg => ?_, ?_⟩
  ·rw [← b3 θ hg, ← a3 θ hg]
   exact ⟨fun h => ⟨⟨h.1, h.2.1⟩, h.2.2⟩, fun h => ⟨h.1.1, h.1.2, h.2⟩⟩
  ·rcases a4 with rfl | a4
   ·exact b4
   ·rcases b4 with rfl | b4
    ·exact .inr a4
    ·exact .inr (by omega)
theorem all_ev {l : List S59} {σ : List (List Int)} {ς : Int → List Int} {S : Nat}
  (ih : ∀ (σ' : List (List Int)) (ς' : Int → List Int) (a b : List Int), SrOk l σ' → Solved (arU l) (tauR σ') ς' → RtOk l a → RtOk l b → (frR σ' < frR σ ∨ σ' = σ ∧ ς' = ς ∧ (subV ς a).length < S) → ∃ q, Ev (fun k => pairF l k σ' a b) q ∧ StepR l σ' (fun θ => subV θ a = subV θ b) q) :
  ∀ (xs ys : List (List Int)), xs.length = ys.length → (∀ t ∈ xs, RtOk l t ∧ (subV ς t).length < S) → (∀ t ∈ ys, RtOk l t) → ∀ (σ' : List (List Int)) (ς' : Int → List Int), SrOk l σ' → Solved (arU l) (tauR σ') ς' → (frR σ' < frR σ ∨ σ' = σ ∧ ς' = ς) →
   ∃ q, Ev (fun k => allL (pairF l k) σ' xs ys) q ∧ StepR l σ' (fun θ => UniR θ xs ys) q := by
 intro xs
 induction xs with
 | nil =>
  intro ys hl _ _ σ' ς' h1 h2 _
  have : ys = [] := List.length_eq_zero_iff.1 hl.symm
  subst this
  exact ⟨some σ', Ev.now _, h1, ⟨ς', h2⟩, fun θ _ => ⟨fun h => h.1, fun h => ⟨h, trivial⟩⟩, .inl rfl⟩
 | cons x xs ihx =>
  intro ys hl hx hy σ' ς' h1 h2 h3
  cases ys with
  | nil => cases hl
  | cons y ys =>
   obtain ⟨q, e1, e2⟩ := ih σ' ς' x y h1 h2 (hx x (List.mem_cons_self ..)).1 (hy y (List.mem_cons_self ..)) (by
    rcases h3 with h3 | ⟨h3, h4⟩
    ·exact .inl h3
    ·exact .inr ⟨h3, h4, (hx x (List.mem_cons_self ..)).2⟩)
   cases q with
   | none =>
    refine ⟨none, Ev.bind e1 (Ev.now _), fun θ hg hr h => e2 θ hg hr h.1⟩
   | some σ2 =>
    obtain ⟨a1, ⟨ς2, a2⟩, a3, a4⟩ := e2
    have hnext : ∃ q, Ev (fun k => allL (pairF l k) σ2 xs ys) q ∧ StepR l σ2 (fun θ => UniR θ xs ys) q := by
     have hl' : xs.length = ys.length := by simpa using hl
     rcases a4 with rfl | a4
     ·exact ihx ys hl' (fun t ht => hx t (List.mem_cons_of_mem _ ht)) (fun t ht => hy t (List.mem_cons_of_mem _ ht)) σ2 ς' h1 h2 h3
     ·refine ihx ys hl' (fun t ht => hx t (List.mem_cons_of_mem _ ht)) (fun t ht => hy t (List.mem_cons_of_mem _ ht)) σ2 ς2 a1 a2 (.inl ?_)
      rcases h3 with h3 | ⟨rfl, _⟩
      ·omega
      ·exact a4
    obtain ⟨q, b1, b2⟩ := hnext
    exact ⟨q, Ev.bind e1 b1, StepR.seq (E1 := fun θ => subV θ x = subV θ y) ⟨a1, ⟨ς2, a2⟩, a3, a4⟩ b2⟩
theorem pair_ev {l : List S59} : ∀ (N S : Nat) (σ : List (List Int)) (ς : Int → List Int) (a b : List Int), frR σ ≤ N → (subV ς a).length ≤ S → SrOk l σ → Solved (arU l) (tauR σ) ς → RtOk l a → RtOk l b →
  ∃ q, Ev (fun k => pairF l k σ a b) q ∧ StepR l σ (fun θ => subV θ a = subV θ b) q := by
 intro N
 induction N using Nat.strongRecOn with
 | _ N ihN =>
 intro S
 induction S using Nat.strongRecOn with
 | _ S ihS =>
 intro σ ς a b hN hS hst hs ha hb
 obtain ⟨u, eu, hu, hus, huf⟩ := walk_ev hst hs a ha
 obtain ⟨v, ev, hv, hvs, hvf⟩ := walk_ev hst hs b hb
 have done : ∀ q, StepR l σ (fun θ => subV θ u = subV θ v) q → StepR l σ (fun θ => subV θ a = subV θ b) q := fun q h => h.iff (fun θ _ hr => by rw [hus θ hr, hvs θ hr])
 have lift : ∀ (g : Nat → Option (Option (List (List Int)))) q, (∀ k, (if u = v then some (some σ)
   else if rd u 0 < 0 ∧ rd v 0 < 0 ∧ rd u 0 < rd v 0 ∨ 0 ≤ rd u 0 ∧ rd v 0 < 0 then pair1F k σ v u (decide (rd u 0 < 0))
   else if rd u 0 < 0 then pair1F k σ u v (decide (rd v 0 < 0))
   else if rd u 0 ≠ rd v 0 then some none
   else allL (pairF l k) σ (pcsU l (u.drop 1)) (pcsU l (v.drop 1))) = g k) → Ev g q → Ev (fun k => pairF l k σ a b) q := by
  intro g q hg hq
  refine Ev.step (f := fun k => (walkF σ k a).bind fun a => (walkF σ k b).bind fun b =>
   if a = b then some (some σ)
   else if rd a 0 < 0 ∧ rd b 0 < 0 ∧ rd a 0 < rd b 0 ∨ 0 ≤ rd a 0 ∧ rd b 0 < 0 then pair1F k σ b a (decide (rd a 0 < 0))
   else if rd a 0 < 0 then pair1F k σ a b (decide (rd b 0 < 0))
   else if rd a 0 ≠ rd b 0 then some none
   else allL (pairF l k) σ (pcsU l (a.drop 1)) (pcsU l (b.drop 1))) (fun k => by simp only [pairF]) (Ev.bind eu (Ev.bind ev ?_))
  obtain ⟨n, hn⟩ := hq
  exact ⟨n, fun k hk => (hg k).trans (hn k hk)⟩
 by_cases huv : u = v
 ·refine ⟨some σ, lift _ _ (fun k => if_pos huv) (Ev.now _), done _ ⟨hst, ⟨ς, hs⟩, fun θ _ => ⟨fun h => h.1, fun h => ⟨h, by rw [huv]⟩⟩, .inl rfl⟩⟩
 ·obtain ⟨c, r, m, e, e1, a1, a2, a3⟩ := hu.head
  obtain ⟨d, s, m', f, f1, b1, b2, b3⟩ := hv.head
  rw [e1] at huf
  rw [f1] at hvf
  by_cases hA : rd u 0 < 0 ∧ rd v 0 < 0 ∧ rd u 0 < rd v 0 ∨ 0 ≤ rd u 0 ∧ rd v 0 < 0
  ·have hA' := hA
   rw [e1, f1] at hA'
   have hd : d < 0 := by omega
   obtain ⟨q, c1, c2⟩ := pair1_ev hst hs hv hu (by rw [f1]; exact hd) (by rw [f1]; exact hvf hd) (fun h => by rw [e1] at h ⊢; rw [f1]; exact ⟨huf h, by omega⟩)
   exact ⟨q, lift _ _ (fun k => by rw [if_neg huv, if_pos hA]) c1, done _ (c2.iff (fun θ _ _ => ⟨fun h => h.symm, fun h => h.symm⟩))⟩
  ·have hA' := hA
   rw [e1, f1] at hA'
   by_cases hc : rd u 0 < 0
   ·have hc' := hc
    rw [e1] at hc'
    obtain ⟨q, c1, c2⟩ := pair1_ev hst hs hu hv hc (by rw [e1]; exact huf hc') (fun h => by
     rw [f1] at h ⊢
     rw [e1]
     have : c ≠ d := by
      intro hcd
      have h1 := a3 hc'
      have h2 := b3 h
      exact huv (by rw [e, f, h1, h2, hcd])
     exact ⟨hvf h, by omega⟩)
    exact ⟨q, lift _ _ (fun k => by rw [if_neg huv, if_neg hA, if_pos hc]) c1, done _ c2⟩
   ·have hc' := hc
    rw [e1] at hc'
    have hc0 : 0 ≤ c := by omega
    have hd0 : 0 ≤ d := by omega
    by_cases hcd : c = d
    ·subst hcd
     have hmm : m = m' := by rw [a1] at b1; exact Option.some.inj b1
     subst hmm
     have ed : u.drop 1 = r := by rw [e]; rfl
     have fd : v.drop 1 = s := by rw [f]; rfl
     have hul := hu.2
     have hvl := hv.2
     rw [e, List.length_cons] at hul
     rw [f, List.length_cons] at hvl
     have pr := pcsU_facts a2 (by omega)
     have ps := pcsU_facts b2 (by omega)
     have hsz : ∀ t ∈ pcsU l r, (subV ς t).length < (subV ς a).length := by
      intro t ht
      rw [← hus ς hs.resp, e]
      simp only [subV, List.length_append]
      rw [subC_pos ς hc0]
      have : (subV ς t).length ≤ (subV ς r).length := by
       rw [← pr.1]
       clear ps pr hul
       revert ht
       generalize pcsU l r = ps
       induction ps with
       | nil => intro ht; cases ht
       | cons p ps ih =>
        intro ht
        rw [List.flatten_cons, subV_append, List.length_append]
        rcases List.mem_cons.1 ht with rfl | ht
        ·omega
        ·have := ih ht; omega
      simp only [List.length_cons, List.length_nil]
      omega
     obtain ⟨q, c1, c2⟩ := all_ev (l := l) (σ := σ) (ς := ς) (S := (subV ς a).length) (fun σ' ς' a' b' g1 g2 g3 g4 g5 => by
      rcases g5 with g5 | ⟨rfl, rfl, g5⟩
      ·exact ihN (frR σ') (by omega) _ σ' ς' a' b' (Nat.le_refl _) (Nat.le_refl _) g1 g2 g3 g4
      ·exact ihS (subV ς' a').length (by omega) σ' ς' a' b' hN (Nat.le_refl _) g1 g2 g3 g4) (pcsU l r) (pcsU l s) (by rw [pr.2.1, ps.2.1]) (fun t ht => ⟨pr.2.2 t ht, hsz t ht⟩) ps.2.2 σ ς hst hs (.inr ⟨rfl, rfl⟩)
     refine ⟨q, lift _ _ (fun k => by rw [if_neg huv, if_neg hA, if_neg hc, if_neg (by rw [e1, f1]; simp), ed, fd]) c1, done _ (c2.iff (fun θ hg _ => ?_))⟩
     rw [uniR_iff hg _ _ (by rw [pr.2.1, ps.2.1]) (fun t ht => (pr.2.2 t ht).1) (fun t ht => (ps.2.2 t ht).1), pr.1, ps.1, e, f, uni_heads hc0 hc0]
     exact ⟨fun h => ⟨rfl, h⟩, fun h => h.2⟩
    ·refine ⟨none, lift _ _ (fun k => by rw [if_neg huv, if_neg hA, if_neg hc, if_pos (by rw [e1, f1]; exact hcd)]) (Ev.now _), done _ (fun θ hg hr h => ?_)⟩
     rw [e, f, uni_heads hc0 hd0] at h
     exact hcd h.1
/-! a term with all that stands for its variables, as far as there is room -/
def Room (out t r : List Int) : Prop := ((out ++ t).length ≤ 48 → r = out ++ t) ∧ (48 < (out ++ t).length → 48 < r.length)
end Go.Proofs.YteffiodbflmfkaaDoor.PP
namespace Go.Proofs.YteffiodbflmfkaaDoor.PP
open Go Go.RowKit Go.Proofs.YteffiodbflmfkaaDoorW.PrintWords Go.Proofs.YteffiodbflmfkaaDoorW.PrintLast Go.Proofs.YteffiodbflmfkaaDoor
set_option linter.unusedVariables false
set_option linter.unusedSimpArgs false
/-- A store and what it stands for, of two rows. -/
def Mgu (l : List S59) (a b : List Int) (τ ς : Int → List Int) : Prop := Solved (arU l) τ ς ∧ ∀ θ, GoodA (arU l) θ → (subV θ a = subV θ b ↔ Resp θ τ)
def listS (ς : Int → List Int) : Nat → List S66
 | 0 => []
 | n + 1 => listS ς n ++ (if ς (-1 - (n : Int)) = [-1 - (n : Int)] then [] else [⟨(n : Int), ς (-1 - (n : Int))⟩])
open Classical in
noncomputable def outV (ς : Int → List Int) : List S66 × Bool × Int := if ∃ v : Nat, v < 24 ∧ 48 < (ς (-1 - (v : Int))).length then ([], false, 401) else (listS ς 24, true, 0)
open Classical in
noncomputable def unifyV (l : List S59) (a b : List Int) : List S66 × Bool × Int :=
 if IsRow l a ∧ IsRow l b then (if h : ∃ τς : (Int → List Int) × (Int → List Int), Mgu l a b τς.1 τς.2 then outV h.choose.2 else ([], false, 0)) else ([], false, 400)
theorem map_sh0 (r : List Int) : r.map (shC 0) = r := by
 have : shC 0 = id := by
  funext c
  unfold shC
  split <;> simp
 rw [this, List.map_id]
theorem arU_isN {l : List S59} {n : Nat} {r : List Int} (h : isN (arS l) n r) : isN (arU l) n r := by
 have := lg_isN (b := 0) (.inl rfl) r n h
 rwa [map_sh0] at this
def st0 : List Pc := List.replicate 48 pc0
theorem ofS_st0 (w : Nat) : ofS st0 w = pc0 := by
 unfold ofS st0
 rw [List.getD_eq_getElem?_getD, List.getElem?_replicate]
 split <;> rfl
theorem tau_st0 : tau st0 = fun _ => [] := by
 funext c
 unfold tau
 split
 ·rw [ofS_st0]; rfl
 ·rfl
theorem st0_ok (l : List S59) : StOk l st0 := ⟨List.length_replicate, fun w h => by rw [ofS_st0] at h; exact absurd rfl h⟩
/-! the program's -/
/-- All pieces of the first row's numbers. -/
def By0 (σ : List Pc) : Prop := ∀ w, (ofS σ w).2 = 0
def cut48 (t : List Int) : List Int := if 48 < t.length then [] else t
end Go.Proofs.YteffiodbflmfkaaDoor.PP
namespace Go.Proofs.YteffiodbflmfkaaDoor.PP
open Go Go.RowKit Go.Proofs.YteffiodbflmfkaaDoorW.PrintWords Go.Proofs.YteffiodbflmfkaaDoorW.PrintLast Go.Proofs.YteffiodbflmfkaaDoor
set_option linter.unusedVariables false
set_option linter.unusedSimpArgs false
def listF (σ : List Pc) (k : Nat) : Nat → Option (List S66)
 | 0 => some []
 | n + 1 => (listF σ k n).bind fun L => if (ofS σ n).1 = [] then some L else (wholeF σ k (ofS σ n)).bind fun t => if t = [] then none else some (L ++ [⟨(n : Int), t⟩])
end Go.Proofs.YteffiodbflmfkaaDoor.PP
