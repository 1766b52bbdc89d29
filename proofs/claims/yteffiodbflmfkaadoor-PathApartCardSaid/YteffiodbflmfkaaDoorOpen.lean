/- Any input that reads as data, opened kind by kind: what its cells say (Kd.K), and its bounds. No conditions. -/
import Derived.Test.YteffiodbflmfkaaDoorGlob
import Derived.Test.YteffiodbflmfkaaDoorWRest
import Derived.WideShapes
import Derived.WalkKit
import Derived.ProofKit
import Derived.OpenShut
import Derived.LaidLaws
import Derived.LaidByTextLater
import Derived.ShapedOpen
import Derived.ChangeOld
import Derived.SizedLaws
namespace Go.Proofs.YteffiodbflmfkaaDoor
open Go Go.RowKit Go.WideShapes Go.Proofs.YteffiodbflmfkaaDoorW.PrintWords

/-- Whatever reads as data of type e has cells that d reads, and meets Wf. -/
structure Opens (P : Program) (e : TypeId) {α : Type} (d : Kd α) (Wf : α → Prop) : Prop where mk :: (out :
 ∀ (H : Type) (enc : TypeId × Value → H) (W : World) (fuel : Nat) (cs : List Value) (x : DataW H) (ps : List MemPlace),
  DataW.trod enc P W 0 (fun _ => true) true fuel e cs = some (x, ps) → (∀ n ∈ x.weights P e, n ≤ reachBytes) → ∃ a, d.K W a cs ∧ Wf a)

def WfI (n : Int) : Prop := -9223372036854775808 ≤ n ∧ n ≤ 9223372036854775807
def WfS (s : ByteArray) : Prop := s.size ≤ 140737488351232
def WfL {α : Type} (B : Nat) (Wf : α → Prop) (l : List α) : Prop := l.length * B ≤ 140737488351232 ∧ ∀ x ∈ l, Wf x

theorem opens_int {P : Program} {e : TypeId} (hu : P.underlying e = some (.int .i64)) : Opens P e (Kd.int .i64) WfI := by
 refine ⟨?_⟩
 intro H enc W fuel cs x ps h _
 cases fuel with
 | zero => simp [DataW.trod] at h
 | succ fuel =>
  match cs with
  | [] => simp [DataW.trod, hu] at h
  | c :: r =>
   cases c <;> cases r <;> simp [DataW.trod, hu] at h
   rename_i k n
   obtain ⟨⟨rfl, hw⟩, rfl, _⟩ := h
   refine ⟨n, rfl, ?_⟩
   simp only [Lit.wf, Bool.and_eq_true, decide_eq_true_eq] at hw
   exact hw

theorem opens_string {P : Program} {e : TypeId} (hu : P.underlying e = some .string) : Opens P e Kd.string WfS := by
 refine ⟨?_⟩
 intro H enc W fuel cs x ps h hw
 cases fuel with
 | zero => simp [DataW.trod] at h
 | succ fuel =>
  match cs with
  | [] => simp [DataW.trod, hu] at h
  | c :: r =>
   cases c <;> cases r <;> simp [DataW.trod, hu] at h
   rename_i s
   obtain ⟨_, rfl, _⟩ := h
   refine ⟨s, rfl, ?_⟩
   have := hw s.data.toList.length (by simp [DataW.weights])
   unfold WfS
   rw [Array.length_toList] at this
   exact this

theorem mapM_at {α β : Type} {f : α → Option β} : ∀ {l : List α} {r : List β}, l.mapM f = some r → r.length = l.length ∧ ∀ j (h : j < l.length), ∃ y, f l[j] = some y ∧ r[j]? = some y := by
 intro l
 induction l with
 | nil => intro r h; simp at h; subst h; simp
 | cons a l ih =>
  intro r h
  simp only [List.mapM_cons, Option.bind_eq_bind, Option.bind_eq_some_iff, Option.pure_def, Option.some.injEq] at h
  obtain ⟨y, hy, ys, hys, rfl⟩ := h
  obtain ⟨hl, hr⟩ := ih hys
  refine ⟨by simp [hl], fun j hj => ?_⟩
  cases j with
  | zero => exact ⟨y, hy, rfl⟩
  | succ j => exact hr j (by simpa using hj)

theorem weightsAll_mem {H : Type} {P : Program} {e : TypeId} {d : DataW H} : ∀ {l : List (DataW H)} {n : Nat}, d ∈ l → n ∈ d.weights P e → n ∈ DataW.weightsAll P e l := by
 intro l
 induction l with
 | nil => intro n h; cases h
 | cons a l ih =>
  intro n h hn
  simp only [DataW.weightsAll, List.mem_append]
  rcases List.mem_cons.1 h with rfl | h
  ·exact .inl hn
  ·exact .inr (ih h hn)

theorem cells?_at {w : World} {base : Nat} {a : Addr} {n : Nat} {l : List Value} (h : w.cells? base a n = some l) : l.length = n ∧ ∀ i u, l[i]? = some u → w.cell? (a.add i) = some u := by
 unfold World.cells? at h
 split at h
 ·obtain ⟨hl, hr⟩ := mapM_at h
  refine ⟨by simpa using hl, fun i u hu => ?_⟩
  have hi : i < l.length := (List.getElem?_eq_some_iff.1 hu).1
  have hi' : i < (List.range n).length := by rw [← hl]; exact hi
  obtain ⟨y, hy, hy2⟩ := hr i hi'
  rw [hu] at hy2
  obtain rfl := Option.some.inj hy2
  simpa using hy
 ·cases h

theorem pick_all {α β : Type} {Q : Nat → α → β → Prop} : ∀ (l : List β), (∀ j y, l[j]? = some y → ∃ a, Q j a y) → ∃ us : List α, us.length = l.length ∧ ∀ j a, us[j]? = some a → ∃ y, l[j]? = some y ∧ Q j a y := by
 intro l
 induction l generalizing Q with
 | nil => intro _; exact ⟨[], rfl, fun j a h => by simp at h⟩
 | cons y l ih =>
  intro h
  obtain ⟨a, ha⟩ := h 0 y rfl
  obtain ⟨us, hl, has⟩ := ih (Q := fun j => Q (j + 1)) (fun j y hy => h (j + 1) y (by simpa using hy))
  refine ⟨a :: us, by simp [hl], fun j b hb => ?_⟩
  cases j with
  | zero =>
   simp at hb
   subst hb
   exact ⟨y, rfl, ha⟩
  | succ j =>
   obtain ⟨z, hz, hq⟩ := has j b (by simpa using hb)
   exact ⟨z, by simpa using hz, hq⟩

theorem opens_slice {P : Program} {t e : TypeId} {α : Type} {d : Kd α} {Wf : α → Prop} {B : Nat} (hu : P.underlying t = some (.slice e)) (hc : P.cellsOf e = d.sz) (hb : P.bytesOf e = B)
  (h : Opens P e d Wf) : Opens P t (Kd.slice e d) (WfL B Wf) := by
 refine ⟨?_⟩
 intro H enc W fuel cs x ps hx hw
 cases fuel with
 | zero => simp [DataW.trod] at hx
 | succ fuel =>
  match cs with
  | [] => simp [DataW.trod, hu] at hx
  | c :: c1 :: r => cases c <;> simp [DataW.trod, hu] at hx
  | [c] =>
   cases c with
   | slice A len cap =>
    cases A with
    | none =>
     have e0 : len = 0 ∧ cap = 0 := by
      rcases len with _ | len <;> rcases cap with _ | cap <;> simp [DataW.trod, hu] at hx ⊢
     obtain ⟨rfl, rfl⟩ := e0
     exact ⟨[], ⟨none, 0, rfl, Nat.le_refl _, rfl, by simp, fun h => absurd h (Nat.lt_irrefl 0)⟩, by simp, fun x hx => by cases hx⟩
    | some a =>
     simp only [DataW.trod, hu] at hx
     split at hx
     ·rename_i hcond
      obtain ⟨_, hlc, hcm⟩ := hcond
      simp only [Option.bind_eq_some_iff] at hx
      obtain ⟨elems, he, hx⟩ := hx
      simp only [Option.map_eq_some_iff] at hx
      obtain ⟨rest, hrest, hx⟩ := hx
      obtain ⟨hx1, hx2⟩ := Prod.mk.inj hx
      subst hx1
      obtain ⟨hel, hea⟩ := mapM_at he
      have hlen : elems.length = len := by simpa using hel
      have hwt : (elems.length + rest.length) * B ≤ reachBytes := by
       have := hw ((elems.length + rest.length) * B) (by simp [DataW.weights, hu, hb])
       exact this
      have hq : ∀ j y, elems[j]? = some y → ∃ p : α, ∃ c, c.length = d.sz ∧ d.K W p c ∧ Wf p ∧ ∀ i u, c[i]? = some u → W.cell? (a.add (j * d.sz + i)) = some u := by
       intro j y hy
       have hj : j < elems.length := (List.getElem?_eq_some_iff.1 hy).1
       obtain ⟨z, hz, hz2⟩ := hea j (by rw [← hel]; exact hj)
       rw [hy] at hz2
       obtain rfl := Option.some.inj hz2
       simp only [List.getElem_range, Option.bind_eq_some_iff] at hz
       obtain ⟨c, hcs, htr⟩ := hz
       obtain ⟨hcl, hcell⟩ := cells?_at hcs
       obtain ⟨p, hp, hwp⟩ := h.out _ enc W fuel c y.1 y.2 htr (fun n hn => hw n (by
        simp only [DataW.weights, hu, List.mem_cons, List.mem_append]
        exact .inr (.inl (weightsAll_mem (List.mem_map.2 ⟨y, List.mem_of_getElem? hy, rfl⟩) hn))))
       refine ⟨p, c, by rw [hcl, hc], hp, hwp, fun i u hiu => ?_⟩
       have := hcell i u hiu
       rw [hc, add_add] at this
       exact this
      obtain ⟨us, hal, has⟩ := pick_all (Q := fun j (p : α) _ => ∃ c, c.length = d.sz ∧ d.K W p c ∧ Wf p ∧ ∀ i u, c[i]? = some u → W.cell? (a.add (j * d.sz + i)) = some u) elems hq
      obtain rfl : us.length = len := by omega
      refine ⟨us, ⟨some a, cap, rfl, hlc, rfl, ?_, fun _ => ⟨a, rfl, fun j p hj => ?_⟩⟩, ?_, fun p hp => ?_⟩
      ·unfold maxLen at hcm; omega
      ·obtain ⟨y, _, c, h1, h2, _, h4⟩ := has j p hj
       exact ⟨c, h1, h2, h4⟩
      ·unfold reachBytes at hwt
       have : us.length * B ≤ (elems.length + rest.length) * B := Nat.mul_le_mul_right _ (by omega)
       omega
      ·obtain ⟨j, hj⟩ := List.mem_iff_getElem?.1 hp
       obtain ⟨y, _, c, _, _, h3, _⟩ := has j p hj
       exact h3
     ·cases hx
   | _ => simp [DataW.trod, hu] at hx

/-- The fields of a struct from a place on, as one kind after another. -/
structure OpensF (P : Program) (fs : List Field) (o : Nat) {α : Type} (d : Kd α) (Wf : α → Prop) : Prop where mk :: (out :
 ∀ (H : Type) (enc : TypeId × Value → H) (W : World) (fuel : Nat) (cs : List Value) (xs : List (DataW H × List MemPlace)), o + d.sz ≤ cs.length →
  (fs.mapM fun f => DataW.trod enc P W 0 (fun _ => true) true fuel f.type ((cs.drop f.offset).take (P.cellsOf f.type))) = some xs →
  (∀ n ∈ DataW.weightsEach P (fs.map (·.type)) (xs.map (·.1)), n ≤ reachBytes) → ∃ a, d.K W a ((cs.drop o).take d.sz) ∧ Wf a)

theorem opensF_one {P : Program} {f : Field} {o : Nat} {α : Type} {d : Kd α} {Wf : α → Prop} (ho : f.offset = o) (hc : P.cellsOf f.type = d.sz) (h : Opens P f.type d Wf) : OpensF P [f] o d Wf := by
 refine ⟨?_⟩
 intro H enc W fuel cs xs _ hx hw
 simp only [List.mapM_cons, List.mapM_nil, Option.bind_eq_bind, Option.bind_eq_some_iff, Option.pure_def, Option.some.injEq] at hx
 obtain ⟨y, hy, ys, rfl, rfl⟩ := hx
 rw [ho, hc] at hy
 exact h.out _ enc W fuel _ y.1 y.2 hy (fun n hn => hw n (by simp [DataW.weightsEach, hn]))

theorem opensF_cons {P : Program} {f : Field} {fs : List Field} {o : Nat} {α β : Type} {d : Kd α} {d2 : Kd β} {Wf : α → Prop} {Wf2 : β → Prop} (ho : f.offset = o) (hc : P.cellsOf f.type = d.sz) (h : Opens P f.type d Wf)
  (h2 : OpensF P fs (o + d.sz) d2 Wf2) : OpensF P (f :: fs) o (Kd.pair d d2) (fun x => Wf x.1 ∧ Wf2 x.2) := by
 refine ⟨?_⟩
 intro H enc W fuel cs xs hl hx hw
 simp only [List.mapM_cons, Option.bind_eq_bind, Option.bind_eq_some_iff, Option.pure_def, Option.some.injEq] at hx
 obtain ⟨y, hy, ys, hys, rfl⟩ := hx
 rw [ho, hc] at hy
 have hl' : o + (d.sz + d2.sz) ≤ cs.length := hl
 obtain ⟨a, ha, hwa⟩ := h.out _ enc W fuel _ y.1 y.2 hy (fun n hn => hw n (by simp [DataW.weightsEach, hn]))
 obtain ⟨b, hb, hwb⟩ := h2.out _ enc W fuel cs ys (by omega) hys (fun n hn => hw n (by simp only [List.map_cons, DataW.weightsEach, List.mem_append]; exact .inr hn))
 refine ⟨(a, b), ⟨_, _, ?_, ha, hb⟩, hwa, hwb⟩
 show (cs.drop o).take (d.sz + d2.sz) = _
 rw [List.take_add, List.drop_drop]

theorem opens_struct {P : Program} {t : TypeId} {fs : Array Field} {α β : Type} {d : Kd α} {Wf : α → Prop} {Wf' : β → Prop} {f : β → α} (g : α → β) (hu : P.underlying t = some (.struct fs)) (hc : P.cellsOf t = d.sz) (h : OpensF P fs.toList 0 d Wf)
  (hfg : ∀ a, f (g a) = a) (hW : ∀ a, Wf a → Wf' (g a)) : Opens P t (Kd.iso d f) Wf' := by
 refine ⟨?_⟩
 intro H enc W fuel cs x ps hx hw
 cases fuel with
 | zero => simp [DataW.trod] at hx
 | succ fuel =>
  simp only [DataW.trod, hu] at hx
  split at hx
  ·rename_i hl
   simp only [Option.map_eq_some_iff] at hx
   obtain ⟨xs, hxs, hx⟩ := hx
   obtain ⟨hx1, hx2⟩ := Prod.mk.inj hx
   subst hx1
   obtain ⟨a, ha, hwa⟩ := h.out _ enc W fuel cs xs (by omega) hxs (fun n hn => hw n (by simpa [DataW.weights, hu] using hn))
   refine ⟨g a, ?_, hW a hwa⟩
   show d.K W (f (g a)) cs
   rw [hfg]
   rw [List.drop_zero, List.take_of_length_le (by omega)] at ha
   exact ha
  ·cases hx

/-- An argument that is a slice. -/
theorem open_slice_arg {H : Type} {enc : TypeId × Value → H} {P : Program} {W : World} {base : Nat} {t e : TypeId} {α : Type} {d : Kd α} {Wf : α → Prop} {B : Nat} {v : Value} {x : DataW H} {p : List MemPlace}
  (hu : P.underlying t = some (.slice e)) (ho : Opens P t (Kd.slice e d) (WfL B Wf)) (hv : Value.okWide P W .any base t v) (h : DataW.Trod enc P W 0 (fun _ => true) true t v x p) (hw : ∀ n ∈ x.weights P t, n ≤ reachBytes) :
  ∃ A c l, v = .slice A (List.length l) c ∧ d.C W A (List.length l) l ∧ List.length l ≤ c ∧ WfL B Wf l := by
 obtain ⟨A, n, c, rfl⟩ := okWide_slice hu hv
 obtain ⟨fuel, hf⟩ := h
 obtain ⟨l, ⟨A', c', hcs, hl, hC⟩, hwf⟩ := ho.out _ enc W fuel _ x p hf hw
 simp [Value.cells] at hcs
 obtain ⟨rfl, rfl, rfl⟩ := hcs
 exact ⟨_, _, l, rfl, hC, hl, hwf⟩
theorem open_int_arg {H : Type} {enc : TypeId × Value → H} {P : Program} {W : World} {base : Nat} {t : TypeId} {v : Value} {x : DataW H} {p : List MemPlace}
  (hu : P.underlying t = some (.int .i64)) (hv : Value.okWide P W .any base t v) (h : DataW.Trod enc P W 0 (fun _ => true) true t v x p) (hw : ∀ n ∈ x.weights P t, n ≤ reachBytes) :
  ∃ s, v = .int .i64 s ∧ WfI s := by
 obtain ⟨s, rfl⟩ := okWide_int hu hv
 obtain ⟨fuel, hf⟩ := h
 obtain ⟨s', hK, hwf⟩ := (opens_int hu).out _ enc W fuel _ x p hf hw
 have this : [Value.int .i64 s] = [Value.int .i64 s'] := hK
 simp at this
 subst this
 exact ⟨s, rfl, hwf⟩
theorem weights_at {H : Type} {P : Program} : ∀ {ts : List TypeId} {ds : List (DataW H)}, (DataW.weightsEach P ts ds).all (· ≤ reachBytes) = true → ∀ (j : Nat) t d, ts[j]? = some t → ds[j]? = some d → ∀ n ∈ d.weights P t, n ≤ reachBytes := by
 intro ts
 induction ts with
 | nil => intro ds _ j t d h; simp at h
 | cons t0 ts ih =>
  intro ds h j t d ht hd n hn
  cases ds with
  | nil => simp at hd
  | cons d0 ds =>
   simp only [DataW.weightsEach, List.all_append, Bool.and_eq_true] at h
   cases j with
   | zero =>
    simp at ht hd
    subst ht hd
    exact of_decide_eq_true (List.all_eq_true.1 h.1 n hn)
   | succ j => exact ih h.2 j t d (by simpa using ht) (by simpa using hd) n hn
end Go.Proofs.YteffiodbflmfkaaDoor
