/- The terms of a row, one by one: what the printed Pieces answers. Order's often and covers: how often each variable stands in a row; their walks. Order's covers: does each variable stand in one row at least as often as in the other; its walk. Order's unlike: the first terms of two rows that are unlike; its walk. Order's more: which of two terms, or atoms, is more; its walk; what the printed functions below it answer. -/
import Derived.Test.YtfnemhkiopgeaaaDoorTerms
import Derived.WalkSpells
import Derived.Deep.WholeRow
import Derived.Laws.CopyOwn
import Derived.Deep.RegionWith
import Derived.Test.YtfnemhkiopgeaaaDoorPKx0
import Derived.Test.YtfnemhkiopgeaaaDoorPKx3
import Derived.Test.YtfnemhkiopgeaaaDoorPKx4
namespace Go.Proofs.YtfnemhkiopgeaaaDoor.PK
open Go Go.RowKit Go.Proofs.YtfnemhkiopgeaaaDoorW.PrintWords Go.Proofs.YtfnemhkiopgeaaaDoorW.PrintLast Go.Proofs.YtfnemhkiopgeaaaDoor
set_option linter.unusedVariables false
set_option linter.unusedSimpArgs false
def pcs (l : List S58) (r : List Int) : List (List Int) := parts (arS l) r.length r
theorem parts_more {ar : Int → Option Nat} : ∀ (n : Nat) (r : List Int), r.length ≤ n → ∀ m, n ≤ m → parts ar m r = parts ar n r := by
  intro n
  induction n with
  | zero =>
    intro r hr m hm
    have : r = [] := List.length_eq_zero_iff.1 (by omega)
    subst this
    cases m with
    | zero => rfl
    | succ m => simp only [parts]; rw [skipN_nil]
  | succ n ih =>
    intro r hr m hm
    obtain ⟨m, rfl⟩ : ∃ q, m = q + 1 := ⟨m - 1, by omega⟩
    simp only [parts]
    cases e : skipN ar r 1 with
    | none => rfl
    | some s =>
      obtain ⟨t, ht, hn⟩ := skipN_split _ _ _ e
      have := isN_pos hn
      have hl : r.length = t.length + s.length := by rw [ht]; simp
      simp only
      rw [ih s (by omega) m (by omega)]
theorem pcs_none {l : List S58} {r : List Int} (h : skipN (arS l) r 1 = none) : pcs l r = [] := by
  unfold pcs
  cases e : r.length with
  | zero => rfl
  | succ n => simp only [parts]; rw [h]
theorem pcs_cons {l : List S58} {t s : List Int} (h : isN (arS l) 1 t) : pcs l (t ++ s) = t :: pcs l s := by
  have := isN_pos h
  unfold pcs
  obtain ⟨k, hk⟩ : ∃ k, (t ++ s).length = k + 1 := ⟨(t ++ s).length - 1, by rw [List.length_append]; omega⟩
  rw [hk, parts_cons h, parts_more s.length s (Nat.le_refl _) k (by rw [List.length_append] at hk; omega)]
theorem pcs_row {l : List S58} {n : Nat} {r : List Int} (h : isN (arS l) n r) : pcs l r = parts (arS l) n r := by
  unfold pcs
  have hp := isN_pos h
  induction n generalizing r with
  | zero =>
    have := isN_zero h
    subst this
    rfl
  | succ n ih =>
    rw [Nat.add_comm] at h
    obtain ⟨t, s, rfl, h1, h2⟩ := isN_split h
    have := pcs_cons (l := l) (s := s) h1
    unfold pcs at this
    rw [this, parts_cons h1, ih h2 (isN_pos h2)]
theorem pcs_mem {l : List S58} : ∀ (n : Nat) (r : List Int), r.length ≤ n → (pcs l r).length ≤ r.length ∧ ∀ t ∈ pcs l r, isN (arS l) 1 t ∧ t.length ≤ r.length ∧ ∀ c ∈ t, c ∈ r := by
  intro n
  induction n with
  | zero =>
    intro r hr
    have : r = [] := List.length_eq_zero_iff.1 (by omega)
    subst this
    exact ⟨Nat.le_refl _, fun t ht => by cases ht⟩
  | succ n ih =>
    intro r hr
    rcases skip_cases (l := l) r 0 with ⟨t, s, e, ht⟩ | e
    · rw [List.drop_zero] at e
      subst e
      have hp := isN_pos ht
      have hl : (t ++ s).length = t.length + s.length := List.length_append
      obtain ⟨h1, h2⟩ := ih s (by omega)
      rw [pcs_cons ht]
      refine ⟨by simp only [List.length_cons]; omega, fun x hx => ?_⟩
      rcases List.mem_cons.1 hx with rfl | hx
      · exact ⟨ht, by omega, fun c hc => List.mem_append.2 (.inl hc)⟩
      · obtain ⟨a, b, c⟩ := h2 x hx
        exact ⟨a, by omega, fun y hy => List.mem_append.2 (.inr (c y hy))⟩
    · rw [List.drop_zero] at e
      rw [pcs_none e]
      exact ⟨Nat.zero_le _, fun t ht => by cases ht⟩
theorem pieces_loop {l : List S58} (hs : SignOk l) (r : List Int) (hr : r.length ≤ 48) : ∀ (d i : Nat) (out : List (List Int)), r.length - i ≤ d → i ≤ r.length → out.length ≤ i → Ev (fun k => term_Pieces.l0 k l r out (i : Int)) (out ++ pcs l (r.drop i)) := by
  intro d
  induction d with
  | zero =>
    intro i out hd hi ho
    refine Ev.step (f := fun _ => some out) (fun k => ?_) (Ev.some_ ?_)
    · simp only [term_Pieces.l0]
      rw [if_neg (by omega)]
    · rw [List.drop_eq_nil_of_le (by omega)]
      simp [pcs, parts]
  | succ d ih =>
    intro i out hd hi ho
    by_cases hlt : i < r.length
    · have hsk := skip_ev hs r hr i hi
      rcases skip_cases (l := l) r i with ⟨t, s, e, ht⟩ | e
      · obtain ⟨hv, hdr⟩ := skipV_some hi ht e
        have htl := isN_pos ht
        have hle : i + t.length ≤ r.length := by
          have : (r.drop i).length = t.length + s.length := by rw [e]; simp
          rw [List.length_drop] at this
          omega
        rw [hv] at hsk
        have htk : (r.take (i + t.length)).drop i = t := by
          rw [List.drop_take, e, show i + t.length - i = t.length by omega]
          simp
        have ih' := ih (i + t.length) (out ++ [t]) (by omega) hle (by simp; omega)
        rw [hdr] at ih'
        rw [e, pcs_cons ht]
        refine Ev.step (f := fun k => (term_Skip.f k l r (i : Int)).bind fun b => if b.2 = true then (if 0 ≤ (i : Int) then (if (i : Int) ≤ b.1 then (if b.1 ≤ (r.length : Int) then (if out.length < 5864062014805 then term_Pieces.l0 k l r (out ++ [((r.take (b.1 : Int).toNat).drop (i : Int).toNat)]) b.1 else none) else none) else none) else none) else some out) (fun k => ?_) (Ev.bind hsk ?_)
        · simp only [term_Pieces.l0]
          rw [if_pos (by omega)]
        · refine Ev.if_pos rfl (Ev.if_pos (by omega) (Ev.if_pos (by simp only; omega) (Ev.if_pos (by simp only; omega) (Ev.if_pos (by omega) ?_))))
          simp only [Int.toNat_natCast]
          rw [htk]
          exact ih'.as_ (by simp)
      · have hv : skipV l r i 1 = (0, false) := by unfold skipV; rw [e]
        rw [hv] at hsk
        refine Ev.step (f := fun k => (term_Skip.f k l r (i : Int)).bind fun b => if b.2 = true then (if 0 ≤ (i : Int) then (if (i : Int) ≤ b.1 then (if b.1 ≤ (r.length : Int) then (if out.length < 5864062014805 then term_Pieces.l0 k l r (out ++ [((r.take (b.1 : Int).toNat).drop (i : Int).toNat)]) b.1 else none) else none) else none) else none) else some out) (fun k => ?_) (Ev.bind hsk (Ev.if_neg (by simp) (Ev.some_ ?_)))
        · simp only [term_Pieces.l0]
          rw [if_pos (by omega)]
        · rw [pcs_none e]
          simp
    · refine Ev.step (f := fun _ => some out) (fun k => ?_) (Ev.some_ ?_)
      · simp only [term_Pieces.l0]
        rw [if_neg (by omega)]
      · rw [List.drop_eq_nil_of_le (by omega)]
        simp [pcs, parts]
theorem pieces_ev {l : List S58} (hs : SignOk l) (r : List Int) (hr : r.length ≤ 48) : Ev (fun k => term_Pieces.f k l r) (pcs l r) := by
  unfold term_Pieces.f
  exact (pieces_loop hs r hr r.length 0 [] (by omega) (by omega) (by simp)).as_ (by simp)
end Go.Proofs.YtfnemhkiopgeaaaDoor.PK
namespace Go.Proofs.YtfnemhkiopgeaaaDoor.PK
open Go Go.RowKit Go.Proofs.YtfnemhkiopgeaaaDoorW.PrintWords Go.Proofs.YtfnemhkiopgeaaaDoorW.PrintLast Go.Proofs.YtfnemhkiopgeaaaDoorW.PrintMore Go.Proofs.YtfnemhkiopgeaaaDoor
set_option linter.unusedVariables false
set_option linter.unusedSimpArgs false
/-- How often each variable stands in a row, as a block's cells. -/
def cnts (r : List Int) : Array Value := ((List.range 24).map fun (v : Nat) => Value.int .i64 ((r.count (-1 - (v : Int)) : Nat) : Int)).toArray
theorem cnts_size (r : List Int) : (cnts r).size = 24 := by simp [cnts]
theorem cnts_at (r : List Int) (v : Nat) (h : v < 24) : (cnts r)[v]? = some (.int .i64 ((r.count (-1 - (v : Int)) : Nat) : Int)) := by
  simp [cnts, h]
theorem cnts_nil : cnts [] = #[.int .i64 0, .int .i64 0, .int .i64 0, .int .i64 0, .int .i64 0, .int .i64 0, .int .i64 0, .int .i64 0, .int .i64 0, .int .i64 0, .int .i64 0, .int .i64 0, .int .i64 0, .int .i64 0, .int .i64 0, .int .i64 0, .int .i64 0, .int .i64 0, .int .i64 0, .int .i64 0, .int .i64 0, .int .i64 0, .int .i64 0, .int .i64 0] := by kernel_rfl
theorem cnts_pos (r : List Int) (c : Int) (h : 0 ≤ c) : cnts (r ++ [c]) = cnts r := by
  unfold cnts
  congr 1
  apply List.map_congr_left
  intro v _
  rw [List.count_append, List.count_singleton, if_neg (by simp; omega)]
  simp
theorem cnts_set (r : List Int) (v : Nat) (h : v < 24) : (cnts r).setIfInBounds v (.int .i64 ((r.count (-1 - (v : Int)) + 1 : Nat) : Int)) = cnts (r ++ [-1 - (v : Int)]) := by
  apply Array.ext_getElem?
  intro j
  rw [Array.getElem?_setIfInBounds]
  by_cases hj : j < 24
  · rw [cnts_at _ j hj, cnts_at _ j hj]
    split
    · rename_i e
      subst e
      rw [if_pos (by rw [cnts_size]; exact h)]
      rw [List.count_append, List.count_singleton]
      simp
    · rename_i e
      rw [List.count_append, List.count_singleton, if_neg (by simp; omega)]
      simp
  · rw [if_neg (by omega), Array.getElem?_eq_none (by rw [cnts_size]; omega), Array.getElem?_eq_none (by rw [cnts_size]; omega)]
theorem rowStore_event {P : Program} {ops : Array Oper} {rest : List Oper} {o : Oper} {a : Act} {Q : Exit → Act → World → Prop} {W : World} {t : TypeId} {p : Tmp} {x : Operand} {g : Nat} {old cells : Array Value} (hgd : o.guard = none) (ho : o.op = .store t (.tmp p) x) (hN : o.dst = none)
    (hp : a.eval (.tmp p) = .pointer (some ⟨g, 0, none⟩)) (hx : a.eval x = .agg cells) (hg : W.heap[g]? = some (.cells old t (0, 0))) (hi : (P.info? t).map (·.size) = some cells.size) (hs : old.size = cells.size) (h1 : cells.all (·.oneCell') = true)
    (h : ∀ w', w' = W.setRow g cells → wpList P ops Q rest a w') : wpList P ops Q (o :: rest) a W := by
  refine store_event (w1 := W.setRow g cells) hgd ho hN ?_ h
  have est : (Instr.storeAt t (.pointer (some ⟨g, 0, none⟩)) (.agg cells)).run P W = .ok () (W.setRow g cells) := by
    simp only [Instr.storeAt, Instr.sureAddr, Sem.run_bind, Sem.run_pure, Result.andThen]
    exact run_storeVar_row W g t t old cells hg hi hs h1
  unfold execOp
  rw [ho]
  dsimp only
  rw [hp, hx, Sem.run_bind, est]
  rfl
theorem results_cell {fn : Func} {a : Tmp} {t : TypeId} (h : fn.results = #[.cell a t]) (tmps : Array Value) (P : Program) (w : World) {p : Addr} {v : Value} (hp : tmps.getD a undef = .pointer (some p)) (hl : (loadVar t p).run P w = .ok v w) :
    (results fn tmps).run P w = .ok v w := by
  simp only [Array.getD_eq_getD_getElem?] at hp
  simp [results, h, hp, asAddr, Sem.run_bind, Sem.run_pure, hl, Result.andThen]
set_option maxHeartbeats 1000000 in
set_option maxRecDepth 100000 in
theorem often_calls (A1 : Option Addr) (c1 : Nat) (a : List Int) (w : World) (ha : a.length ≤ 60) (hcs : ∀ c ∈ a, -24 ≤ c) (hr1 : Kd.C (Kd.int .i64) w A1 a.length a) (hc1 : a.length ≤ c1) :
    Calls Tryd.prog 55 #[.slice A1 a.length c1] w fun e w' => e = .returned (.agg (cnts a)) ∧ Below w.heap.size w w' := by
  have huc := Tryd.underlying72
  have HR1 := Aside0.mk hr1
  have HC1 := Aside0.mk hc1
  have HCS := Aside0.mk hcs
  have HLA := Aside0.mk ha
  clear hr1 hc1 hcs ha
  go_enter Tryd.func55, Tryd.ntmps55
  go_wp2
  go_loopg [7] (a.length + 1) (fun kq v7 w' => ∃ (i : Nat), v7 = .int .i64 i ∧ Aside0 (i ≤ a.length ∧ kq + i = a.length + 1) ∧ Aside0 (w'.heap[w.heap.size]? = some (.cells (cnts (a.take i)) 72 (0, 0))) ∧ Aside0 (Below w.heap.size w w'))
  case atStart => exact ⟨0, rfl, ⟨by omega, by omega⟩, ⟨by rw [List.take_zero, cnts_nil]; exact heap_alloc_new _ _⟩, ⟨below_alloc (Below.refl _ _) _⟩⟩
  case round =>
    obtain ⟨i, rfl, HI, HH, HB⟩ := hrel
    by_cases hi : i < a.length
    · have hla := HLA.out
      have hw1 := wrap_nat i (by omega)
      have hi0 : (0 : Int) ≤ (i : Int) := by omega
      have hi1 : (i : Int) < (a.length : Int) := by omega
      obtain ⟨ad, rfl, hcell⟩ := Kd.at_int (Kd.C_below HR1.out HB.out) (i : Int) hi0 hi1
      obtain ⟨cc, hcc⟩ : ∃ cc, cc = rd a (i : Int) := ⟨_, rfl⟩
      rw [← hcc, Int.toNat_natCast] at hcell
      have hclo : -24 ≤ cc := HCS.out cc (by rw [hcc, rd_nat a i hi]; exact List.getElem_mem _)
      have htk : a.take (i + 1) = a.take i ++ [cc] := by rw [hcc, rd_nat a i hi, List.take_add_one, List.getElem?_eq_getElem hi]; rfl
      have HTK := Aside0.mk htk
      clear htk hcc
      by_cases hc : 0 ≤ cc
      · have hcb : decide (cc < 0) = false := by simp; omega
        have HN := Aside0.mk (show cnts (a.take (i + 1)) = cnts (a.take i) by rw [HTK.out, cnts_pos _ _ hc])
        go_wp2
        go_roundg (gk - 1)
        case measure => have := HI.out; omega
        case rel => exact ⟨i + 1, by first | exact congrArg (Value.int .i64) hw1 | rfl | go_num | (simp; done), ⟨by have := HI.out; omega, by have := HI.out; omega⟩, ⟨by rw [HN.out]; exact HH.out⟩, HB⟩
      · have hcb : decide (cc < 0) = true := by simp; omega
        obtain ⟨v, hv⟩ : ∃ v : Nat, cc = -1 - (v : Int) := ⟨(-1 - cc).toNat, by omega⟩
        have hv24 : v < 24 := by omega
        have hnum : term_Number.f cc = some (v : Int) := by unfold term_Number.f wrap64; congr 1; omega
        have hxc : wr.cell? ⟨w.heap.size, v, none⟩ = some (.int .i64 (((a.take i).count (-1 - (v : Int)) : Nat) : Int)) := (blk_cell HH.out v).trans (cnts_at _ v hv24)
        have hxf : wr.frozen? ⟨w.heap.size, v, none⟩ = false := blk_frozen HH.out v
        have hcl : (a.take i).count (-1 - (v : Int)) ≤ 60 := Nat.le_trans List.count_le_length (by rw [List.length_take]; omega)
        obtain ⟨n, hn⟩ : ∃ n, n = (a.take i).count (-1 - (v : Int)) := ⟨_, rfl⟩
        rw [← hn] at hxc hcl
        have hw2 := wrap_nat n (by omega)
        have HN := Aside0.mk (show (cnts (a.take i)).setIfInBounds v (.int .i64 ((n + 1 : Nat) : Int)) = cnts (a.take (i + 1)) by rw [HTK.out, hv, hn, cnts_set _ v hv24])
        have hv0 : (0 : Int) ≤ (v : Int) := by omega
        have hv1 : (v : Int) < 24 := by omega
        clear hv hn hc
        go_wp2_with fail
        refine (term_Number.calls cc (v : Int) _ hnum).mono ?_
        rintro e w' ⟨rfl, ⟨nd, rfl⟩⟩
        go_wp2
        go_roundg (gk - 1)
        case measure => have := HI.out; omega
        case rel => exact ⟨i + 1, by first | exact congrArg (Value.int .i64) hw1 | rfl | go_num | (simp; done), ⟨by have := HI.out; omega, by have := HI.out; omega⟩, ⟨by rw [← HN.out]; exact blk_set HH.out _ _⟩, ⟨by repeat (first | (with_reducible first | exact HB.out | apply below_alloc | apply pw_below_drewN | apply below_drew1 | refine below_set ?_ (Nat.le_refl _)) | exact HB.out)⟩⟩
    · obtain rfl : i = a.length := by have := HI.out; omega
      clear hi
      have hh := HH.out
      rw [List.take_length] at hh
      have hsz : (Tryd.prog.info? 72).map (·.size) = some (cnts a).size := by rw [cnts_size]; kernel_rfl
      have hld := run_loadVar_row (P := Tryd.prog) wr w.heap.size 72 72 (cnts a) (0, 0) _ hh Tryd.underlying72 rfl hsz
      have hst := run_storeVar_row (P := Tryd.prog) wr w.heap.size 72 72 (cnts a) (cnts a) hh hsz rfl (by rw [Array.all_eq_true_iff_forall_mem]; intro x hx; simp only [cnts, List.mem_toArray, List.mem_map] at hx; obtain ⟨v, _, rfl⟩ := hx; rfl)
      have eld : (Instr.loadAt 72 (.pointer (some ⟨w.heap.size, 0, none⟩))).run Tryd.prog wr = .ok (.agg (cnts a)) wr := by
        simp only [Instr.loadAt, Instr.sureAddr, Sem.run_bind, Sem.run_pure, Result.andThen]
        exact hld
      have est : (Instr.storeAt 72 (.pointer (some ⟨w.heap.size, 0, none⟩)) (.agg (cnts a))).run Tryd.prog wr = .ok () (wr.setRow w.heap.size (cnts a)) := by
        simp only [Instr.storeAt, Instr.sureAddr, Sem.run_bind, Sem.run_pure, Result.andThen]
        exact hst
      clear huc
      go_wp2_with (first | ((with_reducible refine gate_dst (N := 20) rfl ?_); refine Kd.event_run (v := .agg (cnts a)) (w1 := wr) rfl ?hr ?_; (case hr => dsimp only [execOp]; rw [Sem.run_bind]; exact (congrArg (fun r => Result.andThen r _) eld).trans rfl)) | ((with_reducible refine gate_store (t := 72) (p := 2) rfl ?_); refine store_event (t := 72) (p := 2) (v := ?vo) (w1 := wr.setRow w.heap.size (cnts a)) rfl ?ho rfl ?hr ?_; (case ho => rfl); (case hr => dsimp only [execOp]; rw [Sem.run_bind]; exact (congrArg (fun r => Result.andThen r _) est).trans rfl); intro w7 hw))
      have h7 : w7 = wr := by
        rw [hw]
        have : wr.heap.modify w.heap.size (fun o => match o with | .cells _ t fr => .cells (cnts a) t fr | o => o) = wr.heap := by
          apply Array.ext_getElem?
          intro j
          rw [Array.getElem?_modify]
          split
          · rename_i e
            subst e
            rw [hh]
            rfl
          · rfl
        exact congrArg (fun h => ({ wr with heap := h } : World)) this
      rw [h7]
      refine bodyPost_ret (v := .agg (cnts a)) ?_ rfl ⟨rfl, HB.out⟩
      exact results_cell (t := 72) rfl _ _ _ rfl hld
end Go.Proofs.YtfnemhkiopgeaaaDoor.PK
namespace Go.Proofs.YtfnemhkiopgeaaaDoor.PK
open Go Go.RowKit Go.Proofs.YtfnemhkiopgeaaaDoorW.PrintWords Go.Proofs.YtfnemhkiopgeaaaDoorW.PrintLast Go.Proofs.YtfnemhkiopgeaaaDoorW.PrintMore Go.Proofs.YtfnemhkiopgeaaaDoor
set_option linter.unusedVariables false
set_option linter.unusedSimpArgs false
def coversTo (a b : List Int) : Nat → Bool
  | 0 => true
  | n + 1 => coversTo a b n && decide (b.count (-1 - (n : Int)) ≤ a.count (-1 - (n : Int)))
def coversB (a b : List Int) : Bool := coversTo a b 24
theorem coversTo_false {a b : List Int} {n : Nat} (h : coversTo a b n = false) : ∀ m, n ≤ m → coversTo a b m = false := by
  intro m
  induction m with
  | zero => intro hm; obtain rfl := Nat.le_zero.1 hm; simp [coversTo] at h
  | succ m ih =>
    intro hm
    rcases Nat.lt_or_ge m n with h1 | h1
    · obtain rfl : n = m + 1 := by omega
      exact h
    · simp only [coversTo]; rw [ih h1]; rfl
theorem cnts_one (r : List Int) : (cnts r).all (·.oneCell') = true := by
  rw [Array.all_eq_true_iff_forall_mem]
  intro x hx
  simp only [cnts, List.mem_toArray, List.mem_map] at hx
  obtain ⟨v, _, rfl⟩ := hx
  rfl
theorem stored_one {w2 w3 : World} {z za ca : Array Value} {t : TypeId} (hz : z = za) (h : w3 = ((w2.alloc (.cells z t (0, 0))).alloc (.cells z t (0, 0))).setRow w2.heap.size ca) :
    w3.heap[w2.heap.size]? = some (.cells ca t (0, 0)) ∧ w3.heap[w2.heap.size + 1]? = some (.cells za t (0, 0)) ∧ Below w2.heap.size w2 w3 := by
  subst h
  subst hz
  exact ⟨setRow_heap _ _ z _ _ _ (heap_alloc2_old _ _ _), by rw [setRow_other _ _ _ _ (by omega)]; exact heap_alloc2_new _ _ _, below_setRow (below_alloc (below_alloc (Below.refl _ _) _) _) (Nat.le_refl _) _⟩
theorem stored_two {w2 w3 w4 : World} {z ca cb : Array Value} {t : TypeId} (h1 : w3.heap[w2.heap.size]? = some (.cells ca t (0, 0))) (h2 : w3.heap[w2.heap.size + 1]? = some (.cells z t (0, 0))) (hb : Below w2.heap.size w2 w3) (h : w4 = w3.setRow (w2.heap.size + 1) cb) :
    w4.heap[w2.heap.size]? = some (.cells ca t (0, 0)) ∧ w4.heap[w2.heap.size + 1]? = some (.cells cb t (0, 0)) ∧ Below w2.heap.size w2 w4 := by
  subst h
  exact ⟨by rw [setRow_other _ _ _ _ (by omega)]; exact h1, setRow_heap _ _ z _ _ _ h2, below_setRow hb (by omega) _⟩
set_option maxHeartbeats 1000000 in
set_option maxRecDepth 100000 in
theorem covers_calls (A1 : Option Addr) (c1 : Nat) (a : List Int) (A2 : Option Addr) (c2 : Nat) (b : List Int) (w : World) (ha : a.length ≤ 60) (hb : b.length ≤ 60) (hca : ∀ c ∈ a, -24 ≤ c) (hcb : ∀ c ∈ b, -24 ≤ c)
    (hr1 : Kd.C (Kd.int .i64) w A1 a.length a) (hc1 : a.length ≤ c1) (hr2 : Kd.C (Kd.int .i64) w A2 b.length b) (hc2 : b.length ≤ c2) :
    Calls Tryd.prog 47 #[.slice A1 a.length c1, .slice A2 b.length c2] w fun e w' => e = .returned (.bool (coversB a b)) ∧ Below w.heap.size w w' := by
  have HR1 := Aside0.mk hr1
  have HR2 := Aside0.mk hr2
  clear hr1 hr2
  obtain ⟨R, hR⟩ : ∃ R, coversB a b = R := ⟨_, rfl⟩
  rw [hR]
  have HR := Aside0.mk hR
  clear hR
  go_enter Tryd.func47, Tryd.ntmps47
  go_wp2_with fail
  refine (often_calls A1 c1 a _ ha hca HR1.out hc1).mono ?_
  rintro e w1 ⟨rfl, hb1⟩
  have HB1 := Aside0.mk hb1
  clear hb1
  go_wp2_with fail
  refine (often_calls A2 c2 b _ hb hcb (Kd.C_below HR2.out HB1.out) hc2).mono ?_
  rintro e w2 ⟨rfl, hb2⟩
  have HB2 := Aside0.mk (below_step HB1.out hb2)
  clear hb2 HB1
  have hsa : (Tryd.prog.info? 72).map (·.size) = some (cnts a).size := by rw [cnts_size]; kernel_rfl
  have hsb : (Tryd.prog.info? 72).map (·.size) = some (cnts b).size := by rw [cnts_size]; kernel_rfl
  go_wp2_with (first | ((with_reducible refine gate_store (t := 72) (p := 5) rfl ?_); refine rowStore_event (g := w2.heap.size) (old := cnts []) (cells := cnts a) rfl rfl rfl rfl rfl ?hg hsa (by rw [cnts_size, cnts_size]) ?h1 ?_; (case hg => rw [cnts_nil]; exact heap_alloc2_old _ _ _); (case h1 => exact cnts_one a); intro w3 hw3; have hs3 := Aside0.mk (stored_one cnts_nil.symm hw3); clear hw3) | ((with_reducible refine gate_store (t := 72) (p := 6) rfl ?_); refine rowStore_event (g := w2.heap.size + 1) (old := cnts []) (cells := cnts b) rfl rfl rfl rfl rfl ?hg hsb (by rw [cnts_size, cnts_size]) ?h1 ?_; (case hg => exact hs3.out.2.1); (case h1 => exact cnts_one b); intro w4 hw4; have hs4 := Aside0.mk (stored_two hs3.out.1 hs3.out.2.1 hs3.out.2.2 hw4); clear hw4 hs3))
  obtain ⟨hg4', hg4, hb4⟩ := hs4.out
  clear hs4
  have HGA := Aside0.mk hg4'
  have HGB := Aside0.mk hg4
  have HB4 := Aside0.mk (below_step HB2.out hb4)
  clear hg4 hg4' hb4 hsa hsb HB2
  obtain ⟨g1, hg1⟩ : ∃ g, g = w2.heap.size := ⟨_, rfl⟩
  obtain ⟨g2, hg2⟩ : ∃ g, g = w2.heap.size + 1 := ⟨_, rfl⟩
  rw [← hg2, ← hg1]
  rw [← hg1] at HGA
  rw [← hg2] at HGB
  clear hg1 hg2
  go_loopg [12] 25 (fun kq v12 w' => ∃ (i : Nat), v12 = .int .i64 i ∧ Aside0 (i ≤ 24 ∧ kq + i = 25) ∧ Aside0 (coversTo a b i = true) ∧ Aside0 (Below w4.heap.size w4 w'))
  case atStart => exact ⟨0, rfl, ⟨by omega, by omega⟩, ⟨rfl⟩, ⟨Below.refl _ _⟩⟩
  case round =>
    obtain ⟨i, rfl, HI, HC, HB⟩ := hrel
    by_cases hi : i < 24
    · have hi0 : (0 : Int) ≤ (i : Int) := by omega
      have hi1 : (i : Int) < 24 := by omega
      have hxc : wr.cell? ⟨g1, i, none⟩ = some (.int .i64 ((a.count (-1 - (i : Int)) : Nat) : Int)) := pw_cell_below HB.out ((blk_cell HGA.out i).trans (cnts_at _ i hi))
      have hyc : wr.cell? ⟨g2, i, none⟩ = some (.int .i64 ((b.count (-1 - (i : Int)) : Nat) : Int)) := pw_cell_below HB.out ((blk_cell HGB.out i).trans (cnts_at _ i hi))
      have hla : a.count (-1 - (i : Int)) ≤ 60 := Nat.le_trans List.count_le_length ha
      have hlb : b.count (-1 - (i : Int)) ≤ 60 := Nat.le_trans List.count_le_length hb
      have hst : coversTo a b (i + 1) = decide (b.count (-1 - (i : Int)) ≤ a.count (-1 - (i : Int))) := by simp only [coversTo]; rw [HC.out]; rfl
      obtain ⟨n, hn⟩ : ∃ n, n = a.count (-1 - (i : Int)) := ⟨_, rfl⟩
      obtain ⟨m, hm⟩ : ∃ n, n = b.count (-1 - (i : Int)) := ⟨_, rfl⟩
      rw [← hn] at hxc hla hst
      rw [← hm] at hyc hlb hst
      have HST := Aside0.mk hst
      clear hn hm hst
      by_cases hlt : n < m
      · have hd : decide ((n : Int) < (m : Int)) = true := by simp; omega
        have hd2 : decide (n < m) = true := by simpa using hlt
        have HF := Aside0.mk (show R = false from by rw [← HR.out]; exact coversTo_false (by rw [HST.out]; simp; omega) 24 (by omega))
        clear hlt HST HC HR
        go_wp2
        go_quiet (fail)
        go_wp2
        go_ret
        exact ⟨by rw [HF.out]; rfl, below_step HB4.out (by repeat (first | (with_reducible first | exact HB.out | apply below_alloc | apply pw_below_drewN | apply below_drew1) | exact HB.out))⟩
      · have hd : decide ((n : Int) < (m : Int)) = false := by simp; omega
        have hd2 : decide (n < m) = false := by simpa using hlt
        have HST2 := Aside0.mk (show coversTo a b (i + 1) = true from by rw [HST.out]; simp; omega)
        clear hlt HST HC
        go_wp2
        go_quiet (fail)
        go_wp2
        go_roundg (gk - 1)
        case measure => have := HI.out; omega
        case rel => exact ⟨i + 1, by first | rfl | go_num | (simp; done), ⟨by have := HI.out; omega, by have := HI.out; omega⟩, HST2, ⟨by repeat (first | (with_reducible first | exact HB.out | apply below_alloc | apply pw_below_drewN | apply below_drew1) | exact HB.out)⟩⟩
    · obtain rfl : i = 24 := by have := HI.out; omega
      clear hi
      have HT := Aside0.mk (show R = true from by rw [← HR.out]; exact HC.out)
      clear HR HC
      go_wp2
      go_ret
      exact ⟨by rw [HT.out]; rfl, below_step HB4.out HB.out⟩
end Go.Proofs.YtfnemhkiopgeaaaDoor.PK
namespace Go.Proofs.YtfnemhkiopgeaaaDoor.PK
open Go Go.RowKit Go.Proofs.YtfnemhkiopgeaaaDoorW.PrintWords Go.Proofs.YtfnemhkiopgeaaaDoorW.PrintLast Go.Proofs.YtfnemhkiopgeaaaDoorW.PrintMore Go.Proofs.YtfnemhkiopgeaaaDoor
set_option linter.unusedVariables false
set_option linter.unusedSimpArgs false
/-- The first unlike ones of two lists of rows, side by side. -/
def unlikeV : List (List Int) → List (List Int) → Option (List Int × List Int)
  | [], _ => none
  | _ :: _, [] => none
  | x :: xs, y :: ys => if x = y then unlikeV xs ys else some (x, y)
theorem unlikeV_nil (xs : List (List Int)) : unlikeV xs [] = none := by cases xs <;> rfl
def UnlikePost (w : World) (r : Option (List Int × List Int)) (e : Ending) (w' : World) : Prop := Below w.heap.size w w' ∧ match r with
  | none => e = .returned (.tuple #[.slice none 0 0, .slice none 0 0])
  | some (x, y) => ∃ A c A' c', e = .returned (.tuple #[.slice A x.length c, .slice A' y.length c']) ∧ x.length ≤ c ∧ y.length ≤ c' ∧ Kd.C (Kd.int .i64) w' A x.length x ∧ Kd.C (Kd.int .i64) w' A' y.length y
theorem rd_L_nat (xs : List (List Int)) (i : Nat) (h : i < xs.length) : rd_L2 xs (i : Int) = xs[i] := by
  simp [rd_L2, List.getElem?_eq_getElem h]
set_option maxHeartbeats 1000000 in
set_option maxRecDepth 100000 in
theorem unlike_calls (ka kb : Nat) (A0 : Option Addr) (c0 : Nat) (l : List S58) (A1 : Option Addr) (c1 : Nat) (a : List Int) (A2 : Option Addr) (c2 : Nat) (b : List Int) (ps qs : List (List Int)) (w : World)
    (hr0 : Kd.C k58 w A0 l.length l) (hc0 : l.length ≤ c0) (hr1 : Kd.C (Kd.int .i64) w A1 a.length a) (hc1 : a.length ≤ c1) (hr2 : Kd.C (Kd.int .i64) w A2 b.length b) (hc2 : b.length ≤ c2)
    (hka : term_Pieces.f ka l a = some ps) (hkb : term_Pieces.f kb l b = some qs) (hps : ps.length ≤ 60) (hqs : qs.length ≤ 60) (hpl : ∀ x ∈ ps, x.length ≤ 60) :
    Calls Tryd.prog 48 #[.slice A0 l.length c0, .slice A1 a.length c1, .slice A2 b.length c2] w (UnlikePost w (unlikeV ps qs)) := by
  obtain ⟨R, hR⟩ : ∃ R, unlikeV ps qs = R := ⟨_, rfl⟩
  rw [hR]
  have HR := Aside0.mk hR
  have HR0 := Aside0.mk hr0
  have HR1 := Aside0.mk hr1
  have HR2 := Aside0.mk hr2
  have HKA := Aside0.mk hka
  have HKB := Aside0.mk hkb
  have HPL := Aside0.mk hpl
  have HPS := Aside0.mk (And.intro hps hqs)
  clear hr0 hr1 hr2 hR hka hkb hpl hps hqs
  go_enter Tryd.func48, Tryd.ntmps48
  go_wp2_with fail
  refine (term_Pieces.calls kb _ _ l (fun k_ => k_ < w.heap.size) _ _ b qs _ HR0.out hc0 (Kd.V_mk hc2 (Kd.C_F (Kd.heap_int .i64) HR2.out)) HKB.out).mono ?_
  rintro e w1 ⟨vq, rfl, hoq, hb1⟩
  obtain ⟨Aq, cq, rfl, hlq, hCq⟩ := Kd.N_reads hoq
  have HQ1 := Aside0.mk hCq
  have HB1 := Aside0.mk hb1
  clear hoq hCq hb1
  go_wp2_with fail
  refine (term_Pieces.calls ka _ _ l (fun k_ => k_ < w1.heap.size) _ _ a ps _ (Kd.C_below HR0.out HB1.out) hc0 (Kd.V_mk hc1 (Kd.C_F (Kd.heap_int .i64) (Kd.C_below HR1.out HB1.out))) HKA.out).mono ?_
  rintro e w2 ⟨vp, rfl, hop, hb2⟩
  obtain ⟨Ap, cp, rfl, hlp, hCp⟩ := Kd.N_reads hop
  have HP := Aside0.mk hCp
  have HQ := Aside0.mk (Kd.C_below HQ1.out hb2)
  have HB2 := Aside0.mk (below_step HB1.out hb2)
  clear hop hCp hb2 HQ1 HB1
  go_wp2
  go_loopg [18] (ps.length + 1) (fun kq v18 w' => ∃ (i : Nat), v18 = .int .i64 i ∧ Aside0 (i ≤ ps.length ∧ kq + i = ps.length + 1) ∧ Aside0 (unlikeV (ps.drop i) (qs.drop i) = R) ∧ Aside0 (Below w2.heap.size w2 w'))
  case atStart => exact ⟨0, rfl, ⟨by omega, by omega⟩, HR, ⟨Below.refl _ _⟩⟩
  case round =>
    clear HR
    obtain ⟨i, rfl, HI, HR, HB⟩ := hrel
    by_cases hi : i < ps.length
    · have hps := HPS.out
      have hi0 : (0 : Int) ≤ (i : Int) := by omega
      have hi1 : (i : Int) < (ps.length : Int) := by omega
      have HW1 := Aside0.mk (wrap_nat i (by omega))
      obtain ⟨ad, XA, xc, rfl, hxc, hxl, hxC⟩ := at_L2 (Kd.C_below HP.out HB.out) (i : Int) hi0 hi1
      obtain ⟨x, hx⟩ : ∃ x, x = rd_L2 ps (i : Int) := ⟨_, rfl⟩
      rw [← hx] at hxc hxl hxC
      rw [Int.toNat_natCast] at hxc
      have hxm : x.length ≤ 60 := HPL.out x (by rw [hx, rd_L_nat ps i hi]; exact List.getElem_mem _)
      have hxd : ps.drop i = x :: ps.drop (i + 1) := by rw [hx, rd_L_nat ps i hi, List.drop_eq_getElem_cons hi]
      have HXC := Aside0.mk hxC
      have HXL := Aside0.mk hxl
      have HXD := Aside0.mk hxd
      clear hxC hxl hxd hx
      by_cases hq : i < qs.length
      · have hq1 : (i : Int) < (qs.length : Int) := by omega
        obtain ⟨bd, YA, yc, rfl, hyc, hyl, hyC⟩ := at_L2 (Kd.C_below HQ.out HB.out) (i : Int) hi0 hq1
        obtain ⟨y, hy⟩ : ∃ y, y = rd_L2 qs (i : Int) := ⟨_, rfl⟩
        rw [← hy] at hyc hyl hyC
        rw [Int.toNat_natCast] at hyc
        have hyd : qs.drop i = y :: qs.drop (i + 1) := by rw [hy, rd_L_nat qs i hq, List.drop_eq_getElem_cons hq]
        have HYC := Aside0.mk hyC
        have HYL := Aside0.mk hyl
        have hg1 : decide ((i : Int) < (qs.length : Int)) = true := by simp; omega
        have hg2 : decide (i < qs.length) = true := by simpa using hq
        have hr := HR.out
        rw [HXD.out, hyd] at hr
        clear hyC hyl hyd hy HXD HR hq
        obtain ⟨ke, hke⟩ := (equal_ev x y (by omega)).rounds
        by_cases he : x = y
        · have hr2 : unlikeV (ps.drop (i + 1)) (qs.drop (i + 1)) = R := by rw [← hr]; simp only [unlikeV]; rw [if_pos he]
          rw [decide_eq_true he] at hke
          have HKE := Aside0.mk hke
          have HR := Aside0.mk hr2
          clear hke hr hr2 he
          go_wp2_with fail
          refine (slices_Equal_int_int.calls ke _ _ x _ _ y true _ HXC.out HXL.out HYC.out HYL.out HKE.out).mono ?_
          rintro e w' ⟨rfl, ⟨nd, rfl⟩⟩
          go_wp2
          go_roundg (gk - 1)
          case measure => have := HI.out; omega
          case rel => exact ⟨i + 1, by first | exact congrArg (Value.int .i64) HW1.out | rfl | go_num | (simp; done), ⟨by have := HI.out; omega, by have := HI.out; omega⟩, HR, ⟨by repeat (first | (with_reducible first | exact HB.out | apply below_alloc | apply pw_below_drewN | apply below_drew1) | exact HB.out)⟩⟩
        · have hr2 : R = some (x, y) := by rw [← hr]; simp only [unlikeV]; rw [if_neg he]
          rw [decide_eq_false he] at hke
          have HKE := Aside0.mk hke
          subst hr2
          clear hke hr he
          go_wp2_with fail
          refine (slices_Equal_int_int.calls ke _ _ x _ _ y false _ HXC.out HXL.out HYC.out HYL.out HKE.out).mono ?_
          rintro e w' ⟨rfl, ⟨nd, rfl⟩⟩
          go_wp2
          go_quiet (fail)
          go_wp2
          go_ret2
          exact ⟨below_step HB2.out (by repeat (first | (with_reducible first | exact HB.out | apply below_alloc | apply pw_below_drewN | apply below_drew1) | exact HB.out)), XA, xc, YA, yc, rfl, HXL.out, HYL.out, Kd.C_drewN (Kd.C_drewN HXC.out _) _, Kd.C_drewN (Kd.C_drewN HYC.out _) _⟩
      · have hg1 : decide ((i : Int) < (qs.length : Int)) = false := by simp; omega
        have hg2 : decide (i < qs.length) = false := by simpa using hq
        have hr := HR.out
        have hr2 : unlikeV (ps.drop (i + 1)) (qs.drop (i + 1)) = R := by
          rw [← hr, show qs.drop (i + 1) = [] from List.drop_eq_nil_of_le (by omega), show qs.drop i = [] from List.drop_eq_nil_of_le (by omega), unlikeV_nil, unlikeV_nil]
        have HR := Aside0.mk hr2
        clear hr hr2 HXD hq
        go_wp2
        go_roundg (gk - 1)
        case measure => have := HI.out; omega
        case rel => exact ⟨i + 1, by first | exact congrArg (Value.int .i64) HW1.out | rfl | go_num | (simp; done), ⟨by have := HI.out; omega, by have := HI.out; omega⟩, HR, ⟨by repeat (first | (with_reducible first | exact HB.out | apply below_alloc | apply pw_below_drewN | apply below_drew1) | exact HB.out)⟩⟩
    · obtain rfl : i = ps.length := by have := HI.out; omega
      have hr := HR.out
      rw [List.drop_length] at hr
      subst hr
      clear hi HR
      go_wp2
      go_ret2
      exact ⟨below_step HB2.out (by repeat (first | (with_reducible first | exact HB.out | apply below_alloc | apply pw_below_drewN | apply below_drew1) | exact HB.out)), rfl⟩
end Go.Proofs.YtfnemhkiopgeaaaDoor.PK
namespace Go.Proofs.YtfnemhkiopgeaaaDoor.PK
open Go Go.RowKit Go.Proofs.YtfnemhkiopgeaaaDoorW.PrintWords Go.Proofs.YtfnemhkiopgeaaaDoorW.PrintLast Go.Proofs.YtfnemhkiopgeaaaDoorW.PrintMore Go.Proofs.YtfnemhkiopgeaaaDoor
set_option linter.unusedVariables false
set_option linter.unusedSimpArgs false
/-- What a code weighs; what codes weigh. -/
def wtV (l : List S58) (c : Int) : Int := if c < 0 then 1 else (l.getD c.toNat z58).f3
def sumV (l : List S58) : List Int → Int
  | [] => 0
  | c :: r => wtV l c + sumV l r
theorem sign_weight {l : List S58} (h : SignOk l) (j : Nat) (hj : j < l.length) : 1 ≤ (l.getD j z58).f3 ∧ (l.getD j z58).f3 ≤ 20 := by
  obtain ⟨_, _, h0, h1⟩ := h
  cases j with
  | zero =>
    obtain ⟨_, _, _, e⟩ := h0
    rw [e]
    decide
  | succ j =>
    obtain ⟨⟨_, _, _, _, _, a, b⟩, _⟩ := h1 (j + 1) (by omega) hj
    exact ⟨a, b⟩
theorem wtV_bd {l : List S58} (h : SignOk l) {c : Int} (hc : c < l.length) : 1 ≤ wtV l c ∧ wtV l c ≤ 20 := by
  unfold wtV
  split
  · decide
  · exact sign_weight h c.toNat (by omega)
theorem sumV_bd {l : List S58} (h : SignOk l) : ∀ {r : List Int}, (∀ c ∈ r, c < l.length) → (r.length : Int) ≤ sumV l r ∧ sumV l r ≤ 20 * r.length := by
  intro r
  induction r with
  | nil => intro _; simp [sumV]
  | cons c r ih =>
    intro hr
    have h1 := ih (fun c hc => hr c (List.mem_cons_of_mem _ hc))
    have h2 := wtV_bd h (hr c (List.mem_cons_self ..))
    simp only [sumV, List.length_cons]
    omega
theorem sum_loop {l : List S58} (hs : SignOk l) (r : List Int) (hr : r.length ≤ 60) (hc : ∀ c ∈ r, c < l.length) : ∀ (d i : Nat) (n : Int), r.length - i = d → i ≤ r.length → 0 ≤ n → n ≤ 20 * i → Ev (fun k => term_Sum.l0 k l n r (r.length : Int) (i : Int)) (n + sumV l (r.drop i)) := by
  intro d
  induction d with
  | zero =>
    intro i n hd hi h0 h1
    refine Ev.step (f := fun _ => some n) (fun k => ?_) (Ev.some_ ?_)
    · simp only [term_Sum.l0]
      rw [if_neg (by omega)]
    · rw [List.drop_eq_nil_of_le (by omega)]
      simp [sumV]
  | succ d ih =>
    intro i n hd hi h0 h1
    have hlt : i < r.length := by omega
    have hcl : rd r (i : Int) < l.length := hc _ (by rw [rd_nat r i hlt]; exact List.getElem_mem _)
    have hbd := wtV_bd hs hcl
    have hv : n + sumV l (r.drop i) = (n + wtV l (rd r (i : Int))) + sumV l (r.drop (i + 1)) := by rw [drop_cons r i hlt]; simp only [sumV]; omega
    rw [hv]
    refine Ev.step (f := fun k => term_Sum.l0 k l (n + wtV l (rd r (i : Int))) r (r.length : Int) ((i + 1 : Nat) : Int)) (fun k => ?_) (ih (i + 1) _ (by omega) (by omega) (by omega) (by omega))
    simp only [term_Sum.l0]
    rw [if_pos (by omega), if_pos (by omega), if_pos (by omega)]
    unfold wtV at hbd ⊢
    by_cases hneg : rd r (i : Int) < 0
    · rw [if_pos hneg] at hbd ⊢
      rw [if_pos hneg, wrap_nat i (by omega), wrap_id _ (by omega) (by omega)]
    · rw [if_neg hneg] at hbd ⊢
      have e : rd_T58 l (rd r (i : Int)) = l.getD (rd r (i : Int)).toNat z58 := rfl
      rw [if_neg hneg, if_pos (by omega), if_pos hcl, wrap_nat i (by omega), e, wrap_id _ (by omega) (by omega)]
theorem sum_ev {l : List S58} (hs : SignOk l) (r : List Int) (hr : r.length ≤ 60) (hc : ∀ c ∈ r, c < l.length) : Ev (fun k => term_Sum.f k l r) (sumV l r) := by
  unfold term_Sum.f
  exact (sum_loop hs r hr hc r.length 0 0 rfl (by omega) (by omega) (by omega)).as_ (by simp)

/-! the terms of a row -/
theorem unlikeV_some : ∀ {ps qs : List (List Int)} {x y : List Int}, unlikeV ps qs = some (x, y) → x ∈ ps ∧ y ∈ qs ∧ x ≠ y := by
  intro ps
  induction ps with
  | nil => intro qs x y h; cases h
  | cons p ps ih =>
    intro qs x y h
    cases qs with
    | nil => cases h
    | cons q qs =>
      simp only [unlikeV] at h
      split at h
      · obtain ⟨a, b, c⟩ := ih h
        exact ⟨List.mem_cons_of_mem _ a, List.mem_cons_of_mem _ b, c⟩
      · rename_i hne
        injection h with h
        injection h with h1 h2
        subst h1; subst h2
        exact ⟨List.mem_cons_self .., List.mem_cons_self .., hne⟩
/-- Is one more than the other (P6.1)? -/
def moreV (l : List S58) : Nat → List Int → List Int → Bool
  | 0, _, _ => false
  | n + 1, a, b => coversB a b && (if sumV l a = sumV l b then (if rd a 0 = rd b 0 then (match unlikeV (pcs l (a.drop 1)) (pcs l (b.drop 1)) with | none => false | some (x, y) => moreV l n x y) else decide (rd b 0 < rd a 0)) else decide (sumV l b < sumV l a))
/-- The loop's state: two rows to compare, or none any more. -/
def MoreInv (l : List S58) (R : Bool) (n : Nat) (v1 v2 : Value) (W : World) : Prop := (v1 = .slice none 0 0 ∧ v2 = .slice none 0 0 ∧ R = false) ∨
  ∃ A c x A' c' y, v1 = .slice A (List.length x) c ∧ v2 = .slice A' (List.length y) c' ∧ List.length x ≤ c ∧ List.length y ≤ c' ∧ Kd.C (Kd.int .i64) W A (List.length x) x ∧ Kd.C (Kd.int .i64) W A' (List.length y) y ∧
    moreV l n x y = R ∧ 1 ≤ List.length x ∧ List.length x ≤ n ∧ List.length x ≤ 49 ∧ 1 ≤ List.length y ∧ List.length y ≤ 49 ∧ CodesOk l x ∧ CodesOk l y
set_option maxHeartbeats 2000000 in
set_option maxRecDepth 100000 in
theorem more_calls (A0 : Option Addr) (c0 : Nat) (l : List S58) (A1 : Option Addr) (c1 : Nat) (a : List Int) (A2 : Option Addr) (c2 : Nat) (b : List Int) (w : World)
    (hs : SignOk l) (ha1 : 1 ≤ a.length) (ha : a.length ≤ 49) (hb1 : 1 ≤ b.length) (hb : b.length ≤ 49) (hca : CodesOk l a) (hcb : CodesOk l b)
    (hr0 : Kd.C k58 w A0 l.length l) (hc0 : l.length ≤ c0) (hr1 : Kd.C (Kd.int .i64) w A1 a.length a) (hc1 : a.length ≤ c1) (hr2 : Kd.C (Kd.int .i64) w A2 b.length b) (hc2 : b.length ≤ c2) :
    Calls Tryd.prog 38 #[.slice A0 l.length c0, .slice A1 a.length c1, .slice A2 b.length c2] w fun e w' => e = .returned (.bool (moreV l a.length a b)) ∧ Below w.heap.size w w' := by
  obtain ⟨R, hR⟩ : ∃ R, moreV l a.length a b = R := ⟨_, rfl⟩
  rw [hR]
  have HS := Aside0.mk hs
  have HR0 := Aside0.mk hr0
  have HINV := Aside0.mk (show MoreInv l R a.length (.slice A1 a.length c1) (.slice A2 b.length c2) w from .inr ⟨A1, c1, a, A2, c2, b, rfl, rfl, hc1, hc2, hr1, hr2, hR, ha1, Nat.le_refl _, ha, hb1, hb, hca, hcb⟩)
  clear hs hr0 hR ha1 ha hb1 hb hca hcb hc1 hc2 hr1 hr2
  have qn : ∀ (w : World) (a : Option Addr) (n c n' c' : Nat), (binOp .neq 23 (.slice a n c) (.slice none n' c')).run Tryd.prog w = .ok (.bool !a.isNone) w := fun w a n c n' c' => run_neq_slice_nil_any w _ _ a n c n' c' Tryd.underlying23
  go_enter Tryd.func38, Tryd.ntmps38
  go_wp2
  go_loopg [1, 2] a.length (fun kq v1 v2 w' => Aside0 (MoreInv l R kq v1 v2 w') ∧ Aside0 (Below w.heap.size w w'))
  case atStart => exact ⟨HINV, ⟨Below.refl _ _⟩⟩
  case round =>
    clear HINV
    obtain ⟨HINV, HB⟩ := hrel
    rcases HINV.out with ⟨rfl, rfl, rfl⟩ | ⟨A, c, x, A', c', y, rfl, rfl, hxl, hyl, hxC, hyC, hm, hx1, hxn, hx, hy1, hy, hcx, hcy⟩
    · clear HINV
      go_wp2
      go_ret
      exact ⟨rfl, HB.out⟩
    · clear HINV
      obtain ⟨ad, rfl, hxc⟩ := Kd.at_int hxC 0 (by omega) (by omega)
      obtain ⟨bd, rfl, hyc⟩ := Kd.at_int hyC 0 (by omega) (by omega)
      rw [show ((0 : Int)).toNat = 0 from rfl, Addr.add_zero'] at hxc hyc
      obtain ⟨n, hn⟩ : ∃ n, gk = n + 1 := ⟨gk - 1, by omega⟩
      rw [hn] at hm
      have HGK := Aside0.mk (show gk = n + 1 ∧ x.length ≤ n + 1 by omega)
      have HC := Aside0.mk (And.intro hcx hcy)
      have HXC := Aside0.mk hxC
      have HYC := Aside0.mk hyC
      have HXL := Aside0.mk hxl
      have HYL := Aside0.mk hyl
      have hx0 : 0 < x.length := hx1
      have hy0 : 0 < y.length := hy1
      obtain ⟨sx, hsx⟩ : ∃ s, s = sumV l x := ⟨_, rfl⟩
      obtain ⟨sy, hsy⟩ : ∃ s, s = sumV l y := ⟨_, rfl⟩
      obtain ⟨kx, hkx⟩ := (sum_ev HS.out x (by omega) (fun c hc => (hcx c hc).2)).rounds
      obtain ⟨ky, hky⟩ := (sum_ev HS.out y (by omega) (fun c hc => (hcy c hc).2)).rounds
      obtain ⟨hx2, hx3⟩ := sumV_bd HS.out (fun c hc => (hcx c hc).2)
      obtain ⟨hy2, hy3⟩ := sumV_bd HS.out (fun c hc => (hcy c hc).2)
      obtain ⟨x0, hx0'⟩ : ∃ z, z = rd x 0 := ⟨_, rfl⟩
      obtain ⟨y0, hy0'⟩ : ∃ z, z = rd y 0 := ⟨_, rfl⟩
      rw [← hsx] at hkx hx2 hx3
      rw [← hsy] at hky hy2 hy3
      rw [← hx0'] at hxc
      rw [← hy0'] at hyc
      simp only [moreV] at hm
      rw [← hsx, ← hsy, ← hx0', ← hy0'] at hm
      have HKX := Aside0.mk hkx
      have HKY := Aside0.mk hky
      have HM := Aside0.mk hm
      have hbx1 : x.length ≤ 60 := by omega
      have hby1 : y.length ≤ 60 := by omega
      have HX := Aside0.mk (And.intro hx1 (And.intro hx (And.intro hy1 hy)))
      clear hkx hky hm hn hcx hcy hxC hyC hxl hyl hsx hsy hx0' hy0' hx1 hy1 hx hy hxn
      obtain ⟨cv, hcv⟩ : ∃ z, z = coversB x y := ⟨_, rfl⟩
      have HCV := Aside0.mk hcv
      clear hcv
      cases cv with
      | false =>
        have HRF := Aside0.mk (show R = false by rw [← HM.out, ← HCV.out]; rfl)
        clear HM
        go_wp2_with fail
        refine (covers_calls _ _ x _ _ y _ hbx1 hby1 (fun c hc => (HC.out.1 c hc).1) (fun c hc => (HC.out.2 c hc).1) HXC.out HXL.out HYC.out HYL.out).mono ?_
        rw [← HCV.out]
        rintro e w' ⟨rfl, hb1⟩
        have HB1 := Aside0.mk (below_step HB.out hb1)
        clear hb1
        go_wp2
        go_ret
        exact ⟨by rw [HRF.out]; rfl, HB1.out⟩
      | true =>
        go_wp2_with fail
        refine (covers_calls _ _ x _ _ y _ hbx1 hby1 (fun c hc => (HC.out.1 c hc).1) (fun c hc => (HC.out.2 c hc).1) HXC.out HXL.out HYC.out HYL.out).mono ?_
        rw [← HCV.out]
        rintro e w1 ⟨rfl, hb1⟩
        have HXC1 := Aside0.mk (Kd.C_below HXC.out hb1)
        have HYC1 := Aside0.mk (Kd.C_below HYC.out hb1)
        replace hxc := pw_cell_below hb1 hxc
        replace hyc := pw_cell_below hb1 hyc
        have HB1 := Aside0.mk (below_step HB.out hb1)
        clear hb1 HXC HYC HB
        go_wp2_with fail
        refine (term_Sum.calls kx _ _ l _ _ x sx _ (Kd.C_below HR0.out HB1.out) hc0 HXC1.out HXL.out HKX.out).mono ?_
        rintro e w' ⟨rfl, ⟨nd, rfl⟩⟩
        go_wp2_with fail
        refine (term_Sum.calls ky _ _ l _ _ y sy _ (Kd.C_below HR0.out (pw_below_drewN HB1.out _)) hc0 (Kd.C_drewN HYC1.out _) HYL.out HKY.out).mono ?_
        rintro e w' ⟨rfl, ⟨nd, rfl⟩⟩
        by_cases hse : sx = sy
        · subst hse
          have hm := HM.out
          rw [← HCV.out, if_pos rfl] at hm
          simp only [Bool.true_and] at hm
          by_cases he : x0 = y0
          · subst he
            rw [if_pos rfl] at hm
            have HM := Aside0.mk hm
            clear hm
            obtain ⟨i0, hi0', _, hsz, _⟩ := info_parts info3
            obtain ⟨XT, hcutx, hXT, hXTl⟩ := print_drop_of (P := Tryd.prog) (Value.int .i64) 0 23 3 .i64 Tryd.underlying23 hi0' hsz (some ad) c x 1 (by omega) (by omega) HXL.out
            obtain ⟨YT, hcuty, hYT, hYTl⟩ := print_drop_of (P := Tryd.prog) (Value.int .i64) 0 23 3 .i64 Tryd.underlying23 hi0' hsz (some bd) c' y 1 (by omega) (by omega) HYL.out
            have HXT := Aside0.mk (Kd.C_of_reads (h1 := fun _ => rfl) (hXT _ (Kd.reads_of_C HXC1.out)))
            have HYT := Aside0.mk (Kd.C_of_reads (h1 := fun _ => rfl) (hYT _ (Kd.reads_of_C HYC1.out)))
            have hxtm : (x.drop 1).length + 1 = x.length ∧ (y.drop 1).length + 1 = y.length ∧ (∀ z ∈ x.drop 1, z ∈ x) ∧ (∀ z ∈ y.drop 1, z ∈ y) := ⟨by rw [List.length_drop]; omega, by rw [List.length_drop]; omega, fun z hz => List.mem_of_mem_drop hz, fun z hz => List.mem_of_mem_drop hz⟩
            rw [show ((1 : Int)).toNat = 1 from rfl] at HXT HYT hcutx hcuty hXTl hYTl
            obtain ⟨xt, hxt⟩ : ∃ t, t = x.drop 1 := ⟨_, rfl⟩
            obtain ⟨yt, hyt⟩ : ∃ t, t = y.drop 1 := ⟨_, rfl⟩
            rw [← hxt] at HXT hcutx hXTl HM hxtm
            rw [← hyt] at HYT hcuty hYTl HM hxtm
            have HXTM := Aside0.mk hxtm
            have HXTL := Aside0.mk hXTl
            have HYTL := Aside0.mk hYTl
            clear hxtm hXTl hYTl hXT hYT hxt hyt hi0' hsz
            obtain ⟨kx, hkx⟩ := (pieces_ev HS.out xt (by have := HXTM.out; have := HX.out; omega)).rounds
            obtain ⟨ky, hky⟩ := (pieces_ev HS.out yt (by have := HXTM.out; have := HX.out; omega)).rounds
            have hpx := pcs_mem (l := l) xt.length xt (Nat.le_refl _)
            have hpy := pcs_mem (l := l) yt.length yt (Nat.le_refl _)
            have HKPX := Aside0.mk hkx
            have HKPY := Aside0.mk hky
            have HPX := Aside0.mk hpx
            have HPY := Aside0.mk hpy
            clear hkx hky hpx hpy
            cases hu : unlikeV (pcs l xt) (pcs l yt) with
            | none =>
              have HU := Aside0.mk hu
              have HRF := Aside0.mk (show R = false by rw [← HM.out, hu])
              clear hu HM
              go_wp2
              go_quiet (fail)
              go_wp2
              go_region_with (go_at_call 48; (with_reducible refine (unlike_calls kx ky _ _ l _ _ xt _ _ yt (pcs l xt) (pcs l yt) _ (Kd.C_below HR0.out (by repeat (first | (with_reducible first | exact HB1.out | apply below_alloc | apply pw_below_drewN | apply below_drew1) | exact HB1.out))) hc0 ?s1 HXTL.out ?s2 HYTL.out HKPX.out HKPY.out ?s3 ?s4 ?s5).mono ?_); (case s1 => exact Kd.C_drewN HXT.out _); (case s2 => exact Kd.C_drewN HYT.out _); (case s3 => have := HXTM.out; have := HX.out; have := HPX.out; omega); (case s4 => have := HXTM.out; have := HX.out; have := HPY.out; omega); (case s5 => intro z hz; have := HXTM.out; have := HX.out; have := (HPX.out.2 z hz).2.1; omega); intro e w2 hpost; rw [HU.out] at hpost; obtain ⟨hb2, rfl⟩ := hpost)
              have HB2 := Aside0.mk (below_step (show Below w.heap.size w _ by repeat (first | (with_reducible first | exact HB1.out | apply below_alloc | apply pw_below_drewN | apply below_drew1) | exact HB1.out)) hb2)
              clear hb2
              go_wp2
              go_roundg 0
              case measure => have := HGK.out; omega
              case rel => exact ⟨⟨.inl ⟨rfl, rfl, HRF.out⟩⟩, HB2⟩
            | some xy =>
              obtain ⟨x', y'⟩ := xy
              have HU := Aside0.mk hu
              have hm := HM.out
              rw [hu] at hm
              have HMR := Aside0.mk (show moreV l n x' y' = R from hm)
              clear hu HM hm
              go_wp2
              go_quiet (fail)
              go_wp2
              go_region_with (go_at_call 48; (with_reducible refine (unlike_calls kx ky _ _ l _ _ xt _ _ yt (pcs l xt) (pcs l yt) _ (Kd.C_below HR0.out (by repeat (first | (with_reducible first | exact HB1.out | apply below_alloc | apply pw_below_drewN | apply below_drew1) | exact HB1.out))) hc0 ?s1 HXTL.out ?s2 HYTL.out HKPX.out HKPY.out ?s3 ?s4 ?s5).mono ?_); (case s1 => exact Kd.C_drewN HXT.out _); (case s2 => exact Kd.C_drewN HYT.out _); (case s3 => have := HXTM.out; have := HX.out; have := HPX.out; omega); (case s4 => have := HXTM.out; have := HX.out; have := HPY.out; omega); (case s5 => intro z hz; have := HXTM.out; have := HX.out; have := (HPX.out.2 z hz).2.1; omega); intro e w2 hpost; rw [HU.out] at hpost; obtain ⟨hb2, XA, xc, YA, yc, rfl, hl1, hl2, hC1, hC2⟩ := hpost)
              have HB2 := Aside0.mk (below_step (show Below w.heap.size w _ by repeat (first | (with_reducible first | exact HB1.out | apply below_alloc | apply pw_below_drewN | apply below_drew1) | exact HB1.out)) hb2)
              have HC1 := Aside0.mk hC1
              have HC2 := Aside0.mk hC2
              have HL1 := Aside0.mk hl1
              have HL2 := Aside0.mk hl2
              clear hb2 hC1 hC2 hl1 hl2
              go_wp2
              go_roundg n
              case measure => have := HGK.out; omega
              case rel =>
                obtain ⟨m1, m2, _⟩ := unlikeV_some HU.out
                obtain ⟨i1, l1, k1⟩ := HPX.out.2 _ m1
                obtain ⟨i2, l2, k2⟩ := HPY.out.2 _ m2
                have p1 := isN_pos i1
                have p2 := isN_pos i2
                have h1 := HXTM.out
                have h2 := HX.out
                have h3 := HGK.out
                have h4 := HC.out
                exact ⟨⟨.inr ⟨XA, xc, x', YA, yc, y', rfl, rfl, HL1.out, HL2.out, HC1.out, HC2.out, HMR.out, p1, by omega, by omega, p2, by omega, fun c hc => h4.1 c (h1.2.2.1 c (k1 c hc)), fun c hc => h4.2 c (h1.2.2.2 c (k2 c hc))⟩⟩, HB2⟩
          · rw [if_neg he] at hm
            have hn1 : (x0 != y0) = true := by simpa using he
            have hn2 : (x0 == y0) = false := by simpa using he
            have HM := Aside0.mk hm
            clear hm he
            by_cases hlt : y0 < x0
            · have hd : decide (y0 < x0) = true := by simpa using hlt
              have HRF := Aside0.mk (show R = true by rw [← HM.out]; simpa using hlt)
              clear hlt
              go_wp2
              go_quiet (fail)
              go_wp2
              go_quiet (fail)
              go_wp2
              go_ret
              exact ⟨by rw [HRF.out]; rfl, by repeat (first | (with_reducible first | exact HB1.out | apply below_alloc | apply pw_below_drewN | apply below_drew1) | exact HB1.out)⟩
            · have hd : decide (y0 < x0) = false := by simpa using hlt
              have HRF := Aside0.mk (show R = false by rw [← HM.out]; simpa using hlt)
              clear hlt
              go_wp2
              go_quiet (fail)
              go_wp2
              go_quiet (fail)
              go_wp2
              go_ret
              exact ⟨by rw [HRF.out]; rfl, by repeat (first | (with_reducible first | exact HB1.out | apply below_alloc | apply pw_below_drewN | apply below_drew1) | exact HB1.out)⟩
        · have hm := HM.out
          rw [← HCV.out, if_neg hse] at hm
          simp only [Bool.true_and] at hm
          have hn1 : (sx != sy) = true := by simpa using hse
          have hn2 : (sx == sy) = false := by simpa using hse
          clear hse
          by_cases hlt : sy < sx
          · have hd : decide (sy < sx) = true := by simpa using hlt
            have HRF := Aside0.mk (show R = true by rw [← hm]; simpa using hlt)
            clear hlt hm HM
            go_wp2
            go_ret
            exact ⟨by rw [HRF.out]; rfl, by repeat (first | (with_reducible first | exact HB1.out | apply below_alloc | apply pw_below_drewN | apply below_drew1) | exact HB1.out)⟩
          · have hd : decide (sy < sx) = false := by simpa using hlt
            have HRF := Aside0.mk (show R = false by rw [← hm]; simpa using hlt)
            clear hlt hm HM
            go_wp2
            go_ret
            exact ⟨by rw [HRF.out]; rfl, by repeat (first | (with_reducible first | exact HB1.out | apply below_alloc | apply pw_below_drewN | apply below_drew1) | exact HB1.out)⟩
end Go.Proofs.YtfnemhkiopgeaaaDoor.PK
