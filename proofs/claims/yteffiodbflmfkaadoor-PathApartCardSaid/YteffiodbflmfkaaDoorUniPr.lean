/- Unify's run: its block, its pieces; the walks of number, what, put and their kin. Unify's within and put: their walks. Unify's put: its walk. Unify's pairs, and the terms of a row as pieces of an elder row: their walks. Unify's pairs: its walk. Unify's same: its walk. Unify's whole: its walk. Unify itself: its walk. -/
import Derived.Test.YteffiodbflmfkaaDoorUniPl
import Derived.Deep.RegionHeld3
import Derived.Laws.Rows
import Derived.WalkSpells
import Derived.IntWalk
import Derived.Deep.DeepCutAuto
import Derived.Test.YteffiodbflmfkaaDoorPPx0
import Derived.Test.YteffiodbflmfkaaDoorPPx3
import Derived.Test.YteffiodbflmfkaaDoorPPx6
namespace Go.Proofs.YteffiodbflmfkaaDoor.PP
open Go Go.RowKit Go.Proofs.YteffiodbflmfkaaDoorW.PrintWords Go.Proofs.YteffiodbflmfkaaDoorW.PrintLast Go.Proofs.YteffiodbflmfkaaDoorW.PrintMore Go.Proofs.YteffiodbflmfkaaDoor
set_option linter.unusedVariables false
set_option linter.unusedSimpArgs false
theorem pieceSize : (Tryd.prog.info? 87).map (·.size) = some 2 := by kernel_rfl
/-- A piece that may be. -/
structure PcB (p : Pc) : Prop where
 len : p.1.length ≤ 48
 lo : ∀ c ∈ p.1, -24 ≤ c
 by_ : p.2 ≤ 24
/-- A piece's codes in memory. -/
structure PcM (w0 : World) (p : Pc) (A : Option Addr) (c : Nat) : Prop where
 room : p.1.length ≤ c
 row : Kd.C (Kd.int .i64) w0 A p.1.length p.1
 ok : PcB p
 nil : p.1 = [] → A = none ∧ c = 0
 some_ : p.1 ≠ [] → A ≠ none
/-- A run's block. -/
def RunAt (w0 W : World) (g : Nat) (sv : Value) (σ : List Pc) : Prop :=
 σ.length = 48 ∧ ∃ cells : Array Value, W.heap[g]? = some (.cells cells 90 (0, 0)) ∧ cells.size = 97 ∧ cells[0]? = some sv ∧
  ∀ v, v < 48 → ∃ A c, cells[1 + v * 2]? = some (.slice A (ofS σ v).1.length c) ∧ cells[1 + v * 2 + 1]? = some (.int .i64 ((ofS σ v).2 : Int)) ∧ PcM w0 (ofS σ v) A c
theorem RunAt.below {w0 W W1 : World} {g : Nat} {sv : Value} {σ : List Pc} (h : RunAt w0 W g sv σ) (hb : Below W.heap.size W W1) : RunAt w0 W1 g sv σ := by
 obtain ⟨h1, cells, h2, h3⟩ := h
 exact ⟨h1, cells, (hb.block g (blk_lt h2)).trans h2, h3⟩
theorem RunAt.lt {w0 W : World} {g : Nat} {sv : Value} {σ : List Pc} (h : RunAt w0 W g sv σ) : g < W.heap.size := by
 obtain ⟨h1, cells, h2, h3⟩ := h
 exact blk_lt h2
theorem PcM.cell {w0 W : World} {p : Pc} {A : Option Addr} {c : Nat} (h : PcM w0 p A c) (hb : Below w0.heap.size w0 W) (hne : p.1 ≠ []) : ∃ ad, A = some ad ∧ W.cell? ad = some (.int .i64 (rd p.1 0)) ∧ 0 < p.1.length := by
 have hp : 0 < p.1.length := List.length_pos_iff.2 hne
 obtain ⟨ad, h1, h2⟩ := Kd.at_int (Kd.C_below h.row hb) 0 (Int.le_refl _) (by omega)
 refine ⟨ad, h1, ?_, hp⟩
 have e0 : ad.add 0 = ad := by simp [Addr.add]
 rw [← e0]
 exact h2
set_option maxHeartbeats 1000000 in
set_option maxRecDepth 100000 in
theorem number_calls (p : Pc) (A : Option Addr) (c : Nat) (x : Int) (w0 w : World) (hB : Below w0.heap.size w0 w) (hp : PcM w0 p A c) (hx : x < 0) (hlo : -24 ≤ x) :
  Calls Tryd.prog 80 #[.agg #[.slice A p.1.length c, .int .i64 (p.2 : Int)], .int .i64 x] w fun e w' => e = .returned (.int .i64 ((nm p.2 x : Nat) : Int)) ∧ Below w.heap.size w w' := by
 refine unify_piece_number.calls A c p.1 (p.2 : Int) x _ w (Kd.C_below hp.row hB) hp.room ?_
 unfold unify_piece_number.f term_Number.f
 have := hp.ok.by_
 simp only [Option.bind_some, Option.some.injEq]
 rw [wrap_id (-1 - x) (by omega) (by omega), wrap_id _ (by omega) (by omega)]
 unfold nm
 omega
set_option maxHeartbeats 1000000 in
set_option maxRecDepth 100000 in
theorem what_calls (g : Nat) (sv : Value) (σ : List Pc) (k : Nat) (p q : Pc) (A : Option Addr) (c : Nat) (w0 w : World) (hB : Below w0.heap.size w0 w) (hg : w0.heap.size ≤ g) (hR : RunAt w0 w g sv σ) (hp : PcM w0 p A c) (hne : p.1 ≠ []) (h : whatF σ k p = some q) :
  Calls Tryd.prog 74 #[.pointer (some ⟨g, 0, none⟩), .agg #[.slice A p.1.length c, .int .i64 (p.2 : Int)]] w fun e w' =>
   ∃ A' c', e = .returned (.agg #[.slice A' q.1.length c', .int .i64 (q.2 : Int)]) ∧ PcM w0 q A' c' ∧ q.1 ≠ [] ∧ Below w.heap.size w w' := by
 have hup := Tryd.underlying87
 have hur := Tryd.underlying90
 have qn : ∀ (w : World) (a : Option Addr) (n c n' c' : Nat), (binOp .eql 23 (.slice a n c) (.slice none n' c')).run Tryd.prog w = .ok (.bool a.isNone) w := fun w a n c n' c' => Lib.run_eql_slice_nil w _ _ a n c n' c' Tryd.underlying23
 have HB := Aside0.mk hB
 have HG := Aside0.mk hg
 have HR := Aside0.mk hR
 have HP := Aside0.mk hp
 have HNE := Aside0.mk hne
 have H := Aside0.mk h
 clear hB hg hR hp hne h
 go_enter Tryd.func74, Tryd.ntmps74
 go_wp2
 go_loopg [] k (fun kq w' => ∃ (p' : Pc) (A' : Option Addr) (c' : Nat), Aside0 (kq ≤ k) ∧ Aside0 (whatF σ kq p' = some q) ∧ Aside0 (PcM w0 p' A' c') ∧ Aside0 (p'.1 ≠ []) ∧ Aside0 (w'.heap[w.heap.size]? = some (.cells #[.slice A' p'.1.length c', .int .i64 (p'.2 : Int)] 87 (0, 0))) ∧ Aside0 (w'.heap[w.heap.size + 1]? = some (.cells #[.slice none 0 0, .int .i64 0] 87 (0, 0))) ∧ Aside0 (Below w.heap.size w w'))
 case atStart =>
  refine ⟨p, A, c, ⟨Nat.le_refl _⟩, H, HP, HNE, ⟨?_⟩, ⟨?_⟩, ⟨below_alloc (below_alloc (Below.refl _ _) _) _⟩⟩
  ·exact ((below_alloc (Below.refl _ _) _).block w.heap.size (blk_lt (heap_alloc_new _ _))).trans (heap_alloc_new _ _)
  ·have := heap_alloc_new (w.alloc (.cells #[.slice A p.1.length c, .int .i64 (p.2 : Int)] 87)) (.cells #[.slice none 0 0, .int .i64 0] 87)
   simpa using this
 case round =>
  clear H HP HNE
  obtain ⟨p', A', c', HK, H, HP, HNE, HBX, HRS, HBW⟩ := hrel
  cases gk with
  | zero => exact absurd H.out (by simp [whatF])
  | succ k1 =>
   have h := H.out
   clear H
   simp only [whatF] at h
   have hb0 : wr.cell? ⟨w.heap.size, 0, none⟩ = some (.slice A' p'.1.length c') := (blk_cell HBX.out 0).trans rfl
   have hb1 : wr.cell? ⟨w.heap.size, 1, none⟩ = some (.int .i64 (p'.2 : Int)) := (blk_cell HBX.out 1).trans rfl
   obtain ⟨ad, rfl, hhd, hpl⟩ := HP.out.cell (below_weaken HB.out HB.out.size HBW.out) HNE.out
   have hpl' : (0 : Int) < (p'.1.length : Int) := by omega
   by_cases hv : rd p'.1 0 < 0
   ·rw [if_pos hv] at h
    have d1 : decide (rd p'.1 0 < 0) = true := decide_eq_true hv
    have hlo : -24 ≤ rd p'.1 0 := by
     cases e : p'.1 with
     | nil => exact absurd e HNE.out
     | cons x r => exact HP.out.ok.lo x (by rw [e]; simp)
    have hn48 : nm p'.2 (rd p'.1 0) < 48 := by
     have := HP.out.ok.by_
     unfold nm
     omega
    obtain ⟨n, hn⟩ : ∃ n, n = nm p'.2 (rd p'.1 0) := ⟨_, rfl⟩
    rw [← hn] at h hn48
    obtain ⟨hl48, cells, hheap, hsz, hc0, hcells⟩ := HR.out.below HBW.out
    obtain ⟨B, d, hx0, hx1, hxm⟩ := hcells n hn48
    have hn0 : (0 : Int) ≤ (n : Int) := by omega
    have hn1 : (n : Int) < 48 := by omega
    have hy0 : wr.cell? ⟨g, 1 + n * 2, none⟩ = some (.slice B (ofS σ n).1.length d) := (blk_cell hheap _).trans hx0
    have hy1 : wr.cell? ⟨g, 1 + n * 2 + 1, none⟩ = some (.int .i64 ((ofS σ n).2 : Int)) := (blk_cell hheap _).trans hx1
    have HNUM := Aside0.mk (show ∀ w2, Below w0.heap.size w0 w2 → Calls Tryd.prog 80 #[.agg #[.slice (some ad) p'.1.length c', .int .i64 (p'.2 : Int)], .int .i64 (rd p'.1 0)] w2 fun e w' => e = .returned (.int .i64 (n : Int)) ∧ Below w2.heap.size w2 w' from fun w2 h2 => by rw [hn]; exact number_calls p' (some ad) c' _ w0 w2 h2 HP.out hv hlo)
    have HSW := Aside0.mk (show ∀ w', Below wr.heap.size wr w' → w'.cell? ⟨w.heap.size, 0, none⟩ = some (.slice (some ad) p'.1.length c') ∧ w'.cell? ⟨w.heap.size, 1, none⟩ = some (.int .i64 (p'.2 : Int)) ∧ w'.cell? ad = some (.int .i64 (rd p'.1 0)) ∧ w'.cell? ⟨g, 1 + n * 2, none⟩ = some (.slice B (ofS σ n).1.length d) ∧ w'.cell? ⟨g, 1 + n * 2 + 1, none⟩ = some (.int .i64 ((ofS σ n).2 : Int)) from fun w' h' => ⟨pw_cell_below h' hb0, pw_cell_below h' hb1, pw_cell_below h' hhd, pw_cell_below h' hy0, pw_cell_below h' hy1⟩)
    have HH := Aside0.mk h
    have HN := Aside0.mk hn
    have HXM := Aside0.mk hxm
    have HBW0 := Aside0.mk (below_weaken HB.out HB.out.size HBW.out)
    clear h hn hxm hcells hsz hheap hx0 hx1 hc0 hy0 hy1 hl48
    go_wp2
    go_cut [5] from 11 to 25 (fun v5 wx => ∃ b5, v5 = .pointer (some ⟨b5, 0, none⟩) ∧ Aside0 (wr.heap.size ≤ b5) ∧ Aside0 (wx.heap[b5]? = some (.cells #[.slice B (ofS σ n).1.length d, .int .i64 ((ofS σ n).2 : Int)] 87 (0, 0))) ∧ Aside0 (Below wr.heap.size wr wx))
    case first =>
     go_region_held3 (fun w' => w'.cell? ⟨w.heap.size, 0, none⟩ = some (.slice (some ad) p'.1.length c') ∧ w'.cell? ⟨w.heap.size, 1, none⟩ = some (.int .i64 (p'.2 : Int)) ∧ w'.cell? ad = some (.int .i64 (rd p'.1 0)) ∧ w'.cell? ⟨g, 1 + n * 2, none⟩ = some (.slice B (ofS σ n).1.length d) ∧ w'.cell? ⟨g, 1 + n * 2 + 1, none⟩ = some (.int .i64 ((ofS σ n).2 : Int)))
      (first | (refine HSW.out _ ?_; (repeat (first | exact Below.refl _ _ | exact hbw | apply below_alloc | apply below_drew1 | apply pw_below_drewN | refine below_set ?_ (Nat.le_refl _))); done))
      (first | (go_at_call 80; refine (HNUM.out _ (below_weaken HBW0.out HBW0.out.size (by repeat (first | exact Below.refl _ _ | apply below_alloc | apply below_drew1 | apply pw_below_drewN)))).mono ?_; rintro e w1 ⟨rfl, hb1⟩; have hbw := below_step (show Below wr.heap.size wr _ from by repeat (first | exact Below.refl _ _ | apply below_alloc | apply below_drew1 | apply pw_below_drewN)) hb1; try (have hbx : w1.heap[wr.heap.size]? = some (.cells #[.slice none 0 0, .int .i64 0] 87 (0, 0)) := (hb1.block _ (blk_lt (heap_alloc_new _ _))).trans (heap_alloc_new _ _); have hz0 : w1.cell? ⟨wr.heap.size, 0, none⟩ = some (.slice none 0 0) := (blk_cell hbx 0).trans rfl; have hz1 : w1.cell? ⟨wr.heap.size, 1, none⟩ = some (.int .i64 0) := (blk_cell hbx 1).trans rfl; have hf0 := blk_frozen hbx 0; have hf1 := blk_frozen hbx 1)))
     ·go_wp2
      go_meet
      exact ⟨_, rfl, ⟨hbw.size⟩, ⟨heap_alloc_new _ _⟩, ⟨below_alloc hbw _⟩⟩
     ·go_wp2
      go_meet
      exact ⟨_, rfl, ⟨Nat.le_refl _⟩, ⟨blk_set (blk_set hbx _ _) _ _⟩, ⟨below_set (below_set hbw (Nat.le_refl _)) (Nat.le_refl _)⟩⟩
    case rest =>
     obtain ⟨b5, rfl, HB5, HX5, HBC⟩ := hcut
     have h50 : wc.cell? ⟨b5, 0, none⟩ = some (.slice B (ofS σ n).1.length d) := (blk_cell HX5.out 0).trans rfl
     have h51 : wc.cell? ⟨b5, 1, none⟩ = some (.int .i64 ((ofS σ n).2 : Int)) := (blk_cell HX5.out 1).trans rfl
     have hx : wc.heap[w.heap.size]? = some (.cells #[.slice (some ad) p'.1.length c', .int .i64 (p'.2 : Int)] 87 (0, 0)) := (HBC.out.block _ (blk_lt HBX.out)).trans HBX.out
     have hr : wc.heap[w.heap.size + 1]? = some (.cells #[.slice none 0 0, .int .i64 0] 87 (0, 0)) := (HBC.out.block _ (blk_lt HRS.out)).trans HRS.out
     have hbx0 : wc.cell? ⟨w.heap.size, 0, none⟩ = some (.slice (some ad) p'.1.length c') := (blk_cell hx 0).trans rfl
     have hbx1 : wc.cell? ⟨w.heap.size, 1, none⟩ = some (.int .i64 (p'.2 : Int)) := (blk_cell hx 1).trans rfl
     have hbf0 : wc.frozen? ⟨w.heap.size, 0, none⟩ = false := blk_frozen hx 0
     have hbf1 : wc.frozen? ⟨w.heap.size, 1, none⟩ = false := blk_frozen hx 1
     have hrf0 : wc.frozen? ⟨w.heap.size + 1, 0, none⟩ = false := blk_frozen hr 0
     have hrf1 : wc.frozen? ⟨w.heap.size + 1, 1, none⟩ = false := blk_frozen hr 1
     have hrc0 : wc.cell? ⟨w.heap.size + 1, 0, none⟩ = some (.slice none 0 0) := (blk_cell hr 0).trans rfl
     have hrc1 : wc.cell? ⟨w.heap.size + 1, 1, none⟩ = some (.int .i64 0) := (blk_cell hr 1).trans rfl
     have hbc := below_step HBW.out HBC.out
     have HX := Aside0.mk hx
     have HR1 := Aside0.mk hr
     have HBC1 := Aside0.mk hbc
     clear hx hr hbc
     have hh := HH.out
     by_cases hb : (ofS σ n).1 = []
     ·rw [if_pos hb] at hh
      obtain rfl := Option.some.inj hh
      obtain ⟨rfl, rfl⟩ := HXM.out.nil hb
      clear hh HH
      go_wp2
      (try simp only [Exit.inBlock, Exit.then])
      refine bodyPost_ret (results_cell_row rfl _ _ (w.heap.size + 1) 87 #[.slice (some ad) p'.1.length c', .int .i64 (p'.2 : Int)] (0, 0) _ rfl (blk_set (blk_set HR1.out _ _) _ _) hup rfl pieceSize) rfl ?_
      exact ⟨_, _, rfl, HP.out, HNE.out, below_set (below_set HBC1.out (by omega)) (by omega)⟩
     ·rw [if_neg hb] at hh
      obtain ⟨bd, rfl⟩ : ∃ bd, B = some bd := by
       cases B with
       | none => exact absurd rfl (HXM.out.some_ hb)
       | some bd => exact ⟨bd, rfl⟩
      have H' := Aside0.mk hh
      have HNB := Aside0.mk hb
      clear hh HH hb
      go_wp2
      go_roundg k1
      case measure => have := HK.out; omega
      case rel => exact ⟨ofS σ n, some bd, d, ⟨by have := HK.out; omega⟩, H', HXM, HNB, ⟨blk_set (blk_set HX.out _ _) _ _⟩, ⟨blk_far (blk_far HR1.out (by simp) _) (by simp) _⟩, ⟨below_set (below_set HBC1.out (Nat.le_refl _)) (Nat.le_refl _)⟩⟩
   ·rw [if_neg hv] at h
    obtain rfl := Option.some.inj h
    have d1 : decide (rd p'.1 0 < 0) = false := decide_eq_false hv
    have hrf0 : wr.frozen? ⟨w.heap.size + 1, 0, none⟩ = false := blk_frozen HRS.out 0
    have hrf1 : wr.frozen? ⟨w.heap.size + 1, 1, none⟩ = false := blk_frozen HRS.out 1
    have hrc0 : wr.cell? ⟨w.heap.size + 1, 0, none⟩ = some (.slice none 0 0) := (blk_cell HRS.out 0).trans rfl
    have hrc1 : wr.cell? ⟨w.heap.size + 1, 1, none⟩ = some (.int .i64 0) := (blk_cell HRS.out 1).trans rfl
    clear h
    go_wp2
    (try simp only [Exit.inBlock, Exit.then])
    refine bodyPost_ret (results_cell_row rfl _ _ (w.heap.size + 1) 87 #[.slice (some ad) p'.1.length c', .int .i64 (p'.2 : Int)] (0, 0) _ rfl (blk_set (blk_set HRS.out _ _) _ _) hup rfl pieceSize) rfl ?_
    exact ⟨_, _, rfl, HP.out, HNE.out, below_set (below_set HBW.out (by omega)) (by omega)⟩

end Go.Proofs.YteffiodbflmfkaaDoor.PP
namespace Go.Proofs.YteffiodbflmfkaaDoor.PP
open Go Go.RowKit Go.Proofs.YteffiodbflmfkaaDoorW.PrintWords Go.Proofs.YteffiodbflmfkaaDoorW.PrintLast Go.Proofs.YteffiodbflmfkaaDoorW.PrintMore Go.Proofs.YteffiodbflmfkaaDoor
set_option linter.unusedVariables false
set_option linter.unusedSimpArgs false
theorem infoPc : (Tryd.prog.info? 87).map (fun i => (i.zero, i.size, i.bytes)) = some (some (.agg #[.slice none 0 0, .int .i64 0]), 2, 32) := by kernel_rfl
/-- A piece as an element of a row: what it leads to lies in an elder world. -/
def kPC (w0 : World) : Kd Pc where
 sz := 2
 E := []
 K := fun _ p cs => ∃ A c, cs = [.slice A p.1.length c, .int .i64 (p.2 : Int)] ∧ PcM w0 p A c ∧ p.1 ≠ []
 M := fun _ _ _ p cs => ∃ A c, cs = [.slice A p.1.length c, .int .i64 (p.2 : Int)] ∧ PcM w0 p A c ∧ p.1 ≠ []
 K_len := by
  rintro w x cs ⟨A, c, rfl, _⟩
  rfl
 K_one := by
  rintro w x cs ⟨A, c, rfl, _⟩ u hu
  simp only [List.mem_cons, List.not_mem_nil, or_false] at hu
  rcases hu with rfl | rfl <;> rfl
 K_below := fun _ h => h
 K_of_M := fun h => h
 M_mono := fun _ h => h
 M_bound := fun h => h
 M_move := fun _ h => h
 M_lower := fun _ h => h
theorem R_one {α : Type} (d : Kd α) (W : World) (base e : Nat) {x : α} {cs : List Value} {ok : Nat → Prop} (hM : d.M W base (fun _ => False) x cs) (hb : base ≤ W.heap.size) (hok : ok W.heap.size) : d.R e (W.alloc (.cells cs.toArray e)) base ok (.slice (some ⟨W.heap.size, 0, none⟩) 1 1) [x] := by
 have hl := d.K_len (d.K_of_M hM)
 refine ⟨fun k hk => ?_, cs, ?_, ?_, ?_⟩
 ·have : W.heap.size = k := by simpa [Value.ownBlock] using hk
  subst this
  exact hok
 ·have h2 := World.ownsRow_lit (base := base) (e := e) (size := d.sz) W cs.toArray 1 hb (by decide) (by simpa using hl)
  simpa using h2
 ·rw [hl]; simp
 ·intro j p hp
  cases j with
  | succ j => simp at hp
  | zero =>
   obtain rfl := Option.some.inj hp
   have h3 : (cs.drop (0 * d.sz)).take d.sz = cs := by simp [← hl]
   rw [h3]
   exact d.M_mono (fun k hk => hk.elim) (Kd.M_alloc hM _)
theorem R_oneN {α : Type} (d : Kd α) (W : World) (base e : Nat) {x : α} {cs : List Value} {ok : Nat → Prop} {N : Nat} (hN : W.heap.size = N) (hM : d.M W base (fun _ => False) x cs) (hb : base ≤ N) (hok : ok N) : d.R e (W.alloc (.cells cs.toArray e)) base ok (.slice (some ⟨N, 0, none⟩) 1 1) [x] := by
 subst hN
 exact R_one d W base e hM hb hok
/-- The last element of a row of pieces. -/
theorem pc_last {w0 W : World} {base : Nat} {ok : Nat → Prop} {v : Value} {t : List Pc} {m : Nat} (h : (kPC w0).R 87 W base ok v t) (hm : t.length = m + 1) :
  ∃ g cap A c, v = .slice (some ⟨g, 0, none⟩) (m + 1) cap ∧ m + 1 ≤ cap ∧ W.cell? ⟨g, m * 2, none⟩ = some (.slice A (topOf t).1.length c) ∧ W.cell? ⟨g, m * 2 + 1, none⟩ = some (.int .i64 ((topOf t).2 : Int)) ∧ PcM w0 (topOf t) A c ∧ (topOf t).1 ≠ [] ∧ (kPC w0).R 87 W base ok (.slice (some ⟨g, 0, none⟩) m cap) (t.take (t.length - 1)) ∧ ok g := by
 obtain ⟨g, cap, rfl, hg⟩ := Kd.R_form h (by omega)
 obtain ⟨h1, h2, h3⟩ := Kd.R_reads' h
 have hokg : ok g := h.1 g (by simp [Value.ownBlock])
 have htk := Kd.R_take h (m := m) (by omega)
 rw [hm] at h ⊢
 obtain ⟨c, hcl, ⟨A, c', hc, hM, hne⟩, hcc⟩ := Kd.R_get h pc0 (m : Int) (by omega) (by omega)
 have ht : t.getD ((m : Nat) : Int).toNat pc0 = topOf t := by
  unfold topOf
  rw [hm]
  rfl
 rw [ht] at hc hM hne
 have e0 := hcc 0 (.slice A (topOf t).1.length c') (by rw [hc]; rfl)
 have e1 := hcc 1 (.int .i64 ((topOf t).2 : Int)) (by rw [hc]; rfl)
 rw [add_plain] at e0 e1
 exact ⟨g, cap, A, c', rfl, by omega, e0, e1, hM, hne, htk, hokg⟩
/-- Which variables have been seen, as a block's cells. -/
def seenC (s : List Nat) : Array Value := ((List.range 48).map fun (w : Nat) => Value.bool (decide (w ∈ s))).toArray
theorem seenC_at (s : List Nat) (w : Nat) (h : w < 48) : (seenC s)[w]? = some (.bool (decide (w ∈ s))) := by simp [seenC, h]
theorem seenC_set (s : List Nat) (w : Nat) (h : w < 48) : (seenC s).setIfInBounds w (.bool true) = seenC (w :: s) := by
 apply Array.ext_getElem?
 intro j
 rw [Array.getElem?_setIfInBounds]
 by_cases hj : j < 48
 ·rw [seenC_at _ _ hj, seenC_at _ _ hj]
  split
  ·rename_i e
   subst e
   simp [seenC, hj]
  ·rename_i e
   have : (j ∈ w :: s) ↔ (j ∈ s) := by
    rw [List.mem_cons]
    exact ⟨fun h => h.resolve_left (fun h => e h.symm), Or.inr⟩
   simp [this]
 ·have hn : ∀ s, (seenC s)[j]? = none := by
   intro s
   apply Array.getElem?_eq_none
   simp [seenC]
   omega
  rw [hn, hn]
  split
  ·rename_i e
   omega
  ·rfl
theorem seenC_nil : seenC [] = #[.bool false, .bool false, .bool false, .bool false, .bool false, .bool false, .bool false, .bool false, .bool false, .bool false, .bool false, .bool false, .bool false, .bool false, .bool false, .bool false, .bool false, .bool false, .bool false, .bool false, .bool false, .bool false, .bool false, .bool false, .bool false, .bool false, .bool false, .bool false, .bool false, .bool false, .bool false, .bool false, .bool false, .bool false, .bool false, .bool false, .bool false, .bool false, .bool false, .bool false, .bool false, .bool false, .bool false, .bool false, .bool false, .bool false, .bool false, .bool false] := by kernel_rfl
theorem alloc2_size (w : World) (o1 o2 : Obj) : ((w.alloc o1).alloc o2).heap.size = w.heap.size + 2 := by
 show ((w.heap.push o1).push o2).size = _
 simp
theorem alloc3_at (w : World) (o1 o2 o3 : Obj) : (((w.alloc o1).alloc o2).alloc o3).heap[w.heap.size]? = some o1 ∧ (((w.alloc o1).alloc o2).alloc o3).heap[w.heap.size + 1]? = some o2 := by
 have s1 : (w.alloc o1).heap.size = w.heap.size + 1 := by
  show (w.heap.push o1).size = _
  simp
 have n2 : ((w.alloc o1).alloc o2).heap[w.heap.size + 1]? = some o2 := by
  have := heap_alloc_new (w.alloc o1) o2
  rwa [s1] at this
 constructor
 ·have h1 : ((w.alloc o1).alloc o2).heap[w.heap.size]? = some o1 := ((below_alloc (Below.refl _ _) _).block w.heap.size (by rw [s1]; omega)).trans (heap_alloc_new _ _)
  exact ((below_alloc (Below.refl _ _) _).block w.heap.size (by rw [alloc2_size]; omega)).trans h1
 ·exact ((below_alloc (Below.refl _ _) _).block _ (by rw [alloc2_size]; omega)).trans n2
set_option maxHeartbeats 1000000 in
set_option maxRecDepth 100000 in
theorem within_calls (g : Nat) (sv : Value) (σ : List Pc) (k v : Nat) (y : Pc) (A : Option Addr) (c : Nat) (R : Bool) (w0 w : World) (hB : Below w0.heap.size w0 w) (hg : w0.heap.size ≤ g) (hR : RunAt w0 w g sv σ) (hp : PcM w0 y A c) (hne : y.1 ≠ []) (h : withinF σ v k [] [y] = some R) :
  Calls Tryd.prog 81 #[.pointer (some ⟨g, 0, none⟩), .int .i64 (v : Int), .agg #[.slice A y.1.length c, .int .i64 (y.2 : Int)]] w fun e w' => e = .returned (.bool R) ∧ Below w.heap.size w w' := by
 have hup := Tryd.underlying87
 have hur := Tryd.underlying90
 have qn : ∀ (w : World) (a : Option Addr) (n c n' c' : Nat), (binOp .neq 23 (.slice a n c) (.slice none n' c')).run Tryd.prog w = .ok (.bool (!a.isNone)) w := fun w a n c n' c' => run_neq_slice_nil_any w _ _ a n c n' c' Tryd.underlying23
 have HB := Aside0.mk hB
 have HG := Aside0.mk hg
 have HR := Aside0.mk hR
 have HP := Aside0.mk hp
 have HNE := Aside0.mk hne
 have H := Aside0.mk h
 clear hB hg hR hp hne h
 go_enter Tryd.func81, Tryd.ntmps81
 go_wp2
 go_loopg [8] k (fun kq v8 w' => ∃ (s : List Nat) (t : List Pc) (x0 x1 : Value), Aside0 (kq ≤ k) ∧ Aside0 (withinF σ v kq s t = some R) ∧ Aside0 (w'.heap[w.heap.size]? = some (.cells #[x0, x1] 87 (0, 0))) ∧ Aside0 (w'.heap[w.heap.size + 1]? = some (.cells (seenC s) 102 (0, 0))) ∧ Aside0 ((kPC w0).R 87 w' w.heap.size (fun q => w.heap.size + 2 ≤ q) v8 t) ∧ Aside0 (Below w.heap.size w w'))
 case atStart =>
  refine ⟨[], [y], _, _, ⟨Nat.le_refl _⟩, H, ⟨(alloc3_at w _ _ _).1⟩, ⟨?_⟩, ⟨R_oneN (kPC w0) _ w.heap.size 87 (cs := [.slice A y.1.length c, .int .i64 (y.2 : Int)]) (alloc2_size w _ _) ⟨A, c, rfl, HP.out, HNE.out⟩ (Nat.le_add_right _ 2) (Nat.le_refl _)⟩, ⟨below_alloc (below_alloc (below_alloc (Below.refl _ _) _) _) _⟩⟩
  rw [seenC_nil]
  exact (alloc3_at w _ _ _).2
 case round =>
  clear H HP HNE
  obtain ⟨s, t, x0, x1, HK, H, HBX, HSN, HT, HBW⟩ := hrel
  cases gk with
  | zero => exact absurd H.out (by simp [withinF])
  | succ k1 =>
   have h := H.out
   clear H
   simp only [withinF] at h
   by_cases ht : t.length = 0
   ·rw [if_pos ht] at h
    obtain rfl := Option.some.inj h
    obtain ⟨TA, tc, rfl⟩ := Kd.R_slice HT.out
    have d1 : decide ((0 : Int) < (t.length : Int)) = false := by rw [decide_eq_false_iff_not]; omega
    have d2 : decide (0 < t.length) = false := by rw [decide_eq_false_iff_not]; omega
    rw [ht] at d1 d2 ⊢
    clear h
    go_wp2
    go_ret
    exact ⟨rfl, HBW.out⟩
   ·rw [if_neg ht] at h
    by_cases h1000 : 1000 < t.length
    ·rw [if_pos h1000] at h
     cases h
    ·rw [if_neg h1000] at h
     obtain ⟨m, hm⟩ : ∃ m, t.length = m + 1 := ⟨t.length - 1, by omega⟩
     obtain ⟨b, cap, PA, pc, rfl, hcap, hq0, hq1, hpm, hpne, htk, hb2⟩ := pc_last HT.out hm
     obtain ⟨Rs, hRs⟩ : ∃ Rs, scanV σ v (topOf t).2 (topOf t).1 s (t.take (t.length - 1)) = Rs := ⟨_, rfl⟩
     rw [hRs] at h
     generalize topOf t = p at hq0 hq1 hpm hpne hRs
     have hwr : IntKind.i64.wrap (m : Int) = (m : Int) := IntWalk.i64_in _ (by omega)
     have hm0 : (0 : Int) ≤ (m : Int) := by omega
     have hxb0 : wr.cell? ⟨w.heap.size, 0, none⟩ = some x0 := (blk_cell HBX.out 0).trans rfl
     have hxb1 : wr.cell? ⟨w.heap.size, 1, none⟩ = some x1 := (blk_cell HBX.out 1).trans rfl
     have hxf0 : wr.frozen? ⟨w.heap.size, 0, none⟩ = false := blk_frozen HBX.out 0
     have hxf1 : wr.frozen? ⟨w.heap.size, 1, none⟩ = false := blk_frozen HBX.out 1
     obtain ⟨i0, hi0', _, hsz, _⟩ := info_parts infoPc
     have hcut := cut_to (P := Tryd.prog) 103 87 .i64 Tryd.underlying103 hi0' (some (⟨b, 0, none⟩ : Addr)) (m + 1) cap (m : Int) (by omega) (by omega) hcap
     simp only [Int.toNat_natCast] at hcut
     have HH := Aside0.mk h
     have HM := Aside0.mk hm
     have HTK := Aside0.mk htk
     have HPM := Aside0.mk hpm
     have HPN := Aside0.mk hpne
     have HCAP := Aside0.mk hcap
     have HB2 := Aside0.mk hb2
     have H1000 := Aside0.mk h1000
     have HRS := Aside0.mk hRs
     clear h hm htk hpm hpne HT ht hi0' hsz hRs hcap h1000
     go_wp2
     go_loopg [8, 31] (p.1.length + 1) (fun kq v8 v31 w' => ∃ (i : Nat) (s' : List Nat) (t' : List Pc), v31 = .int .i64 (i : Int) ∧ Aside0 (i ≤ p.1.length ∧ kq + i = p.1.length + 1) ∧ Aside0 (scanV σ v p.2 (p.1.drop i) s' t' = Rs) ∧ Aside0 (t'.length ≤ 1000 + i) ∧ Aside0 (w'.heap[w.heap.size]? = some (.cells #[.slice PA p.1.length pc, .int .i64 (p.2 : Int)] 87 (0, 0))) ∧ Aside0 (w'.heap[w.heap.size + 1]? = some (.cells (seenC s') 102 (0, 0))) ∧ Aside0 ((kPC w0).R 87 w' w.heap.size (fun q => w.heap.size + 2 ≤ q) v8 t') ∧ Aside0 (Below w.heap.size w w'))
     case atStart =>
      refine ⟨0, s, t.take (t.length - 1), rfl, ⟨Nat.zero_le _, rfl⟩, HRS, ⟨?_⟩, ⟨blk_set (blk_set HBX.out _ _) _ _⟩, ⟨blk_far (blk_far HSN.out (by simp) _) (by simp) _⟩, ⟨Kd.R_far (Kd.R_far HTK.out (fun q hq => by show q ≠ w.heap.size; omega) _) (fun q hq => by show q ≠ w.heap.size; omega) _⟩, ⟨below_set (below_set HBW.out (Nat.le_refl _)) (Nat.le_refl _)⟩⟩
      have := HM.out
      have := H1000.out
      rw [List.length_take]
      omega
     case round =>
      clear HRS HTK HSN HBW HBX hxb0 hxb1 hxf0 hxf1 hcut hq0 hq1
      obtain ⟨i, s', t', rfl, HI, HRS, HTL, HBX, HSN, HT, HBW⟩ := hrel
      have hbase := below_weaken HB.out HB.out.size HBW.out
      have hlen := HPM.out.ok.len
      by_cases hi : i < p.1.length
      ·have hi0 : (0 : Int) ≤ (i : Int) := by omega
       have hi1 : (i : Int) < (p.1.length : Int) := by omega
       obtain ⟨ad, rfl, hcell⟩ := Kd.at_int (Kd.C_below HPM.out.row hbase) (i : Int) hi0 hi1
       obtain ⟨cc, hcc⟩ : ∃ cc, cc = rd p.1 (i : Int) := ⟨_, rfl⟩
       rw [← hcc, Int.toNat_natCast] at hcell
       have hR1 : scanV σ v p.2 (cc :: p.1.drop (i + 1)) s' t' = Rs := by rw [hcc, ← drop_cons p.1 i hi]; exact HRS.out
       have hlo : -24 ≤ cc := HPM.out.ok.lo cc (by rw [hcc, rd_nat p.1 i hi]; exact List.getElem_mem _)
       have HCC := Aside0.mk hcc
       have HBS := Aside0.mk hbase
       have HLEN := Aside0.mk hlen
       have hw1 : wrap64 ((i : Int) + 1) = ((i + 1 : Nat) : Int) := wrap_nat i (by omega)
       clear hcc HRS hbase hlen
       have HW1 := Aside0.mk hw1
       clear hw1
       by_cases hc : 0 ≤ cc
       ·have d1 : decide ((0 : Int) ≤ cc) = true := decide_eq_true hc
        have hR2 : scanV σ v p.2 (p.1.drop (i + 1)) s' t' = Rs := by rw [← hR1]; simp only [scanV]; rw [if_pos hc]
        have HRS := Aside0.mk hR2
        clear hR1 hR2
        go_wp2
        go_roundg (gk - 1)
        case measure => have := HI.out; omega
        case rel => exact ⟨i + 1, s', t', by first | exact congrArg (Value.int .i64) HW1.out | rfl | go_num | (simp; done), ⟨by have := HI.out; omega, by have := HI.out; omega⟩, HRS, ⟨by have := HTL.out; omega⟩, HBX, HSN, HT, HBW⟩
       ·have d1 : decide ((0 : Int) ≤ cc) = false := decide_eq_false hc
        have hcn : cc < 0 := by omega
        obtain ⟨n, hn⟩ : ∃ n, n = nm p.2 cc := ⟨_, rfl⟩
        have hn48 : n < 48 := by
         have := HPM.out.ok.by_
         rw [hn]
         unfold nm
         omega
        have hR2 : (if n = v then none else if n ∉ s' ∧ (ofS σ n).1 ≠ [] then scanV σ v p.2 (p.1.drop (i + 1)) (n :: s') (t' ++ [ofS σ n]) else scanV σ v p.2 (p.1.drop (i + 1)) s' t') = Rs := by
         rw [← hR1]
         conv => rhs; simp only [scanV]
         rw [if_neg hc, ← hn]
        have HNUM := Aside0.mk (show ∀ w2, Below w0.heap.size w0 w2 → Calls Tryd.prog 80 #[.agg #[.slice (some ad) p.1.length pc, .int .i64 (p.2 : Int)], .int .i64 cc] w2 fun e w' => e = .returned (.int .i64 (n : Int)) ∧ Below w2.heap.size w2 w' from fun w2 h2 => by rw [hn]; exact number_calls p (some ad) pc _ w0 w2 h2 HPM.out hcn hlo)
        have HN48 := Aside0.mk hn48
        have HR2 := Aside0.mk hR2
        have hxb0 : wr.cell? ⟨w.heap.size, 0, none⟩ = some (.slice (some ad) p.1.length pc) := (blk_cell HBX.out 0).trans rfl
        have hxb1 : wr.cell? ⟨w.heap.size, 1, none⟩ = some (.int .i64 (p.2 : Int)) := (blk_cell HBX.out 1).trans rfl
        clear hR1 hR2 hn hcn
        go_wp2_with fail
        refine (HNUM.out _ HBS.out).mono ?_
        rintro e w1 ⟨rfl, hb1⟩
        have hsn1 : w1.heap[w.heap.size + 1]? = some (.cells (seenC s') 102 (0, 0)) := (hb1.block _ (blk_lt HSN.out)).trans HSN.out
        have HSN1 := Aside0.mk hsn1
        have HBX1 := Aside0.mk (show w1.heap[w.heap.size]? = some (.cells #[.slice (some ad) p.1.length pc, .int .i64 (p.2 : Int)] 87 (0, 0)) from (hb1.block _ (blk_lt HBX.out)).trans HBX.out)
        have HT1 := Aside0.mk (Kd.R_below HT.out hb1)
        have HBW1 := Aside0.mk (below_step HBW.out hb1)
        have hn0 : (0 : Int) ≤ (n : Int) := by omega
        have hn1 : (n : Int) < 48 := by omega
        have hsc : w1.cell? ⟨w.heap.size + 1, n, none⟩ = some (.bool (decide (n ∈ s'))) := (blk_cell hsn1 n).trans (seenC_at s' n hn48)
        have hsf : w1.frozen? ⟨w.heap.size + 1, n, none⟩ = false := blk_frozen hsn1 n
        clear hsn1 HSN HBX HT hxb0 hxb1 hcell
        by_cases hnv : n = v
        ·have hR3 := HR2.out
         rw [if_pos hnv] at hR3
         have hh := HH.out
         rw [← hR3] at hh
         obtain rfl := Option.some.inj hh
         have e1 : ((n : Int) == (v : Int)) = true := by simp [hnv]
         have e2 : (n == v) = true := by simp [hnv]
         clear hR3 hh HH HR2 hnv hsc hsf
         go_wp2
         go_ret
         exact ⟨rfl, HBW1.out⟩
        ·have hR3 := HR2.out
         rw [if_neg hnv] at hR3
         have e1 : ((n : Int) == (v : Int)) = false := by simp; omega
         have e2 : (n == v) = false := by simpa using hnv
         have HR3 := Aside0.mk hR3
         clear hR3 HR2 hnv
         by_cases hs : n ∈ s'
         ·have hR4 := HR3.out
          rw [if_neg (fun h => h.1 hs)] at hR4
          rw [decide_eq_true hs] at hsc
          have HRS := Aside0.mk hR4
          clear hR4 HR3 hs
          go_wp2
          go_roundg (gk - 1)
          case measure => have := HI.out; omega
          case rel => exact ⟨i + 1, s', t', by first | exact congrArg (Value.int .i64) HW1.out | rfl | go_num | (simp; done), ⟨by have := HI.out; omega, by have := HI.out; omega⟩, HRS, ⟨by have := HTL.out; omega⟩, HBX1, HSN1, HT1, HBW1⟩
         ·rw [decide_eq_false hs] at hsc
          obtain ⟨hl48, cells, hheap, hsz, hc0, hcells⟩ := HR.out.below HBW1.out
          obtain ⟨B, d, hx0, hx1, hxm⟩ := hcells n hn48
          have hy0 : w1.cell? ⟨g, 1 + n * 2, none⟩ = some (.slice B (ofS σ n).1.length d) := (blk_cell hheap _).trans hx0
          have hy1 : w1.cell? ⟨g, 1 + n * 2 + 1, none⟩ = some (.int .i64 ((ofS σ n).2 : Int)) := (blk_cell hheap _).trans hx1
          have HXM := Aside0.mk hxm
          have HS := Aside0.mk hs
          clear hcells hsz hheap hx0 hx1 hc0 hl48 hxm hs
          by_cases hb : (ofS σ n).1 = []
          ·have hR4 := HR3.out
           rw [if_neg (fun h => h.2 hb)] at hR4
           obtain ⟨rfl, rfl⟩ := HXM.out.nil hb
           have HRS := Aside0.mk hR4
           clear hR4 HR3 hb
           go_wp2
           go_roundg (gk - 1)
           case measure => have := HI.out; omega
           case rel => exact ⟨i + 1, s', t', by first | exact congrArg (Value.int .i64) HW1.out | rfl | go_num | (simp; done), ⟨by have := HI.out; omega, by have := HI.out; omega⟩, HRS, ⟨by have := HTL.out; omega⟩, HBX1, HSN1, HT1, HBW1⟩
          ·have hR4 := HR3.out
           rw [if_pos ⟨HS.out, hb⟩] at hR4
           obtain ⟨bd, rfl⟩ : ∃ bd, B = some bd := by
            cases B with
            | none => exact absurd rfl (HXM.out.some_ hb)
            | some bd => exact ⟨bd, rfl⟩
           have HRS := Aside0.mk hR4
           have HNB := Aside0.mk hb
           clear hR4 HR3 hb
           have hsz2 : w.heap.size + 2 ≤ w1.heap.size := blk_lt HSN1.out
           have HSZ := Aside0.mk hsz2
           clear hsz2
           go_wp2_with (first | ((with_reducible refine gate_builtin (b := .append) (xs := #[.tmp 59, .tmp 66]) rfl ?_); at_builtin; refine Kd.R_append (kPC w0) (w0 := w) w.heap.size rfl (.tmp 59) (.tmp 66) 103 87 (.agg #[.slice none 0 0, .int .i64 0]) 32 rfl Tryd.underlying103 infoPc rfl Nat.zero_lt_two (by omega) u8 t' (ofS σ n) [.slice (some bd) (ofS σ n).1.length d, .int .i64 ((ofS σ n).2 : Int)] (fun q => w.heap.size + 2 ≤ q) (fun _ => False) rfl ?hx ?hp (fun _ h => h.elim) ?hf ?hO ?hB ?hs ?hl ?_; (case hx => rw [World.size_setCell]; rfl); (case hp => exact ⟨some bd, d, rfl, HXM.out, HNB.out⟩); (case hf => intro q hq; have h8 := HSZ.out; rw [World.size_setCell] at hq; show w.heap.size + 2 ≤ q; omega); (case hO => exact Kd.R_far HT1.out (fun q hq => by show q ≠ w.heap.size + 1; omega) _); (case hB => exact below_set HBW1.out (by omega)); (case hs => exact below_size (below_set HBW1.out (by omega))); (case hl => have := HTL.out; have := HI.out; have := HLEN.out; omega); intro v5 w5 ho hb hg hat; have n0_ := Aside0.mk hb; have n1_ := Aside0.mk ho; have n2_ := Aside0.mk hg; clear ho hb hg hat))
           go_roundg (gk - 1)
           case measure => have := HI.out; omega
           case rel => exact ⟨i + 1, n :: s', t' ++ [ofS σ n], by first | exact congrArg (Value.int .i64) HW1.out | rfl | go_num | (simp; done), ⟨by have := HI.out; omega, by have := HI.out; omega⟩, HRS, ⟨by have := HTL.out; simp only [List.length_append, List.length_singleton]; omega⟩, ⟨blk_grown (blk_far HBX1.out (by simp) _) n2_.out (fun e => by have h9 : w.heap.size + 2 ≤ w.heap.size := HT1.out.1 _ e.symm; omega)⟩, ⟨by rw [← seenC_set s' n HN48.out]; exact blk_grown (blk_set HSN1.out _ _) n2_.out (fun e => by have h9 : w.heap.size + 2 ≤ w.heap.size + 1 := HT1.out.1 _ e.symm; omega)⟩, n1_, n0_⟩
      ·have hil : i = p.1.length := by have := HI.out; omega
       subst hil
       have hR1 := HRS.out
       rw [List.drop_length] at hR1
       simp only [scanV] at hR1
       have hh := HH.out
       rw [← hR1] at hh
       have H' := Aside0.mk (show withinF σ v k1 s' t' = some R from hh)
       clear hi hR1 hh HH HRS
       go_wp2
       go_roundg k1
       case measure => have := HK.out; omega
       case rel => exact ⟨s', t', _, _, ⟨by have := HK.out; omega⟩, H', HBX, HSN, HT, HBW⟩
end Go.Proofs.YteffiodbflmfkaaDoor.PP
namespace Go.Proofs.YteffiodbflmfkaaDoor.PP
open Go Go.RowKit Go.Proofs.YteffiodbflmfkaaDoorW.PrintWords Go.Proofs.YteffiodbflmfkaaDoorW.PrintLast Go.Proofs.YteffiodbflmfkaaDoorW.PrintMore Go.Proofs.YteffiodbflmfkaaDoor
set_option linter.unusedVariables false
set_option linter.unusedSimpArgs false
theorem run_set {w0 W : World} {g n : Nat} {sv : Value} {σ : List Pc} {cells : Array Value} {y : Pc} {A : Option Addr} {c : Nat} (hl : σ.length = 48) (hn : n < 48)
  (hh : W.heap[g]? = some (.cells ((cells.setIfInBounds (1 + n * 2) (.slice A y.1.length c)).setIfInBounds (1 + n * 2 + 1) (.int .i64 (y.2 : Int))) 90 (0, 0))) (hz : cells.size = 97) (h0 : cells[0]? = some sv)
  (hc : ∀ v, v < 48 → ∃ A c, cells[1 + v * 2]? = some (.slice A (ofS σ v).1.length c) ∧ cells[1 + v * 2 + 1]? = some (.int .i64 ((ofS σ v).2 : Int)) ∧ PcM w0 (ofS σ v) A c) (hy : PcM w0 y A c) : RunAt w0 W g sv (σ.set n y) := by
 refine ⟨by rw [List.length_set]; exact hl, _, hh, by simpa using hz, ?_, fun v hv => ?_⟩
 ·rw [Array.getElem?_setIfInBounds, if_neg (by omega), Array.getElem?_setIfInBounds, if_neg (by omega)]
  exact h0
 ·by_cases e : v = n
  ·subst e
   rw [ofS_same (by omega)]
   refine ⟨A, c, ?_, ?_, hy⟩
   ·rw [Array.getElem?_setIfInBounds, if_neg (by omega), Array.getElem?_setIfInBounds, if_pos rfl, if_pos (by omega)]
   ·rw [Array.getElem?_setIfInBounds, if_pos rfl, if_pos (by rw [Array.size_setIfInBounds]; omega)]
  ·obtain ⟨B, d, h1, h2, h3⟩ := hc v hv
   rw [ofS_other e]
   refine ⟨B, d, ?_, ?_, h3⟩
   ·rw [Array.getElem?_setIfInBounds, if_neg (by omega), Array.getElem?_setIfInBounds, if_neg (by omega)]
    exact h1
   ·rw [Array.getElem?_setIfInBounds, if_neg (by omega), Array.getElem?_setIfInBounds, if_neg (by omega)]
    exact h2
theorem PcM.head {w0 : World} {p : Pc} {A : Option Addr} {c : Nat} (h : PcM w0 p A c) (hne : p.1 ≠ []) : -24 ≤ rd p.1 0 ∧ nm p.2 (rd p.1 0) < 48 ∧ ∃ ad, A = some ad := by
 have hlo : -24 ≤ rd p.1 0 := by
  cases e : p.1 with
  | nil => exact absurd e hne
  | cons x r => exact h.ok.lo x (by rw [e]; simp)
 refine ⟨hlo, ?_, ?_⟩
 ·have := h.ok.by_
  unfold nm
  omega
 ·cases A with
  | none => exact absurd rfl (h.some_ hne)
  | some ad => exact ⟨ad, rfl⟩
theorem alloc2_at (w : World) (o1 o2 : Obj) : ((w.alloc o1).alloc o2).heap[w.heap.size]? = some o1 ∧ ((w.alloc o1).alloc o2).heap[w.heap.size + 1]? = some o2 := by
 have s1 : (w.alloc o1).heap.size = w.heap.size + 1 := by
  show (w.heap.push o1).size = _
  simp
 constructor
 ·exact ((below_alloc (Below.refl _ _) _).block w.heap.size (by rw [s1]; omega)).trans (heap_alloc_new _ _)
 ·have := heap_alloc_new (w.alloc o1) o2
  rwa [s1] at this
set_option maxHeartbeats 1000000 in
set_option maxRecDepth 100000 in
theorem put_calls (g : Nat) (sv : Value) (σ : List Pc) (k : Nat) (x y : Pc) (A A' : Option Addr) (c c' : Nat) (R : Option (List Pc)) (w0 w : World) (hB : Below w0.heap.size w0 w) (hg : w0.heap.size ≤ g) (hR : RunAt w0 w g sv σ)
  (hx : PcM w0 x A c) (hxn : x.1 ≠ []) (hxv : rd x.1 0 < 0) (hy : PcM w0 y A' c') (hyn : y.1 ≠ []) (h : putF k σ x y = some R) :
  Calls Tryd.prog 75 #[.pointer (some ⟨g, 0, none⟩), .agg #[.slice A x.1.length c, .int .i64 (x.2 : Int)], .agg #[.slice A' y.1.length c', .int .i64 (y.2 : Int)]] w fun e w' =>
   e = .returned (.bool R.isSome) ∧ (∀ σ', R = some σ' → RunAt w0 w' g sv σ') ∧ KeepBut w w' g none ∧ Below w0.heap.size w0 w' := by
 have hup := Tryd.underlying87
 have hur := Tryd.underlying90
 obtain ⟨hxlo, hvx, xa, rfl⟩ := hx.head hxn
 obtain ⟨hylo, hvy, ya, rfl⟩ := hy.head hyn
 obtain ⟨vx, hvxe⟩ : ∃ vx, vx = nm x.2 (rd x.1 0) := ⟨_, rfl⟩
 have HNX := Aside0.mk (show ∀ w2, Below w0.heap.size w0 w2 → Calls Tryd.prog 80 #[.agg #[.slice (some xa) x.1.length c, .int .i64 (x.2 : Int)], .int .i64 (rd x.1 0)] w2 fun e w' => e = .returned (.int .i64 (vx : Int)) ∧ Below w2.heap.size w2 w' from fun w2 h2 => by rw [hvxe]; exact number_calls x (some xa) c _ w0 w2 h2 hx hxv hxlo)
 simp only [putF] at h
 rw [← hvxe] at h hvx
 have HB := Aside0.mk hB
 have HG := Aside0.mk hg
 have HR := Aside0.mk hR
 have HX := Aside0.mk hx
 have HY := Aside0.mk hy
 have HXN := Aside0.mk hxn
 have HYN := Aside0.mk hyn
 have H := Aside0.mk h
 clear hB hg hR hx hy hxn hyn h hvxe hxlo
 go_enter Tryd.func75, Tryd.ntmps75
 go_wp2
 obtain ⟨W2, hW2⟩ : ∃ W2, W2 = (w.alloc (.cells #[.slice (some xa) x.1.length c, .int .i64 (x.2 : Int)] 87)).alloc (.cells #[.slice (some ya) y.1.length c', .int .i64 (y.2 : Int)] 87) := ⟨_, rfl⟩
 rw [← hW2]
 have hb2 : Below w.heap.size w W2 := by rw [hW2]; exact below_alloc (below_alloc (Below.refl _ _) _) _
 have hxb : W2.heap[w.heap.size]? = some (.cells #[.slice (some xa) x.1.length c, .int .i64 (x.2 : Int)] 87 (0, 0)) := by rw [hW2]; exact (alloc2_at w _ _).1
 have hyb : W2.heap[w.heap.size + 1]? = some (.cells #[.slice (some ya) y.1.length c', .int .i64 (y.2 : Int)] 87 (0, 0)) := by rw [hW2]; exact (alloc2_at w _ _).2
 have hbw0 := below_weaken HB.out HB.out.size hb2
 obtain ⟨_, e1, hxh, hxl⟩ := HX.out.cell hbw0 HXN.out
 cases e1
 have hxl' : (0 : Int) < (x.1.length : Int) := by omega
 have hx0 : W2.cell? ⟨w.heap.size, 0, none⟩ = some (.slice (some xa) x.1.length c) := (blk_cell hxb 0).trans rfl
 have hx1 : W2.cell? ⟨w.heap.size, 1, none⟩ = some (.int .i64 (x.2 : Int)) := (blk_cell hxb 1).trans rfl
 have HSW := Aside0.mk (show ∀ w', Below W2.heap.size W2 w' → w'.cell? ⟨w.heap.size, 0, none⟩ = some (.slice (some xa) x.1.length c) ∧ w'.cell? ⟨w.heap.size, 1, none⟩ = some (.int .i64 (x.2 : Int)) ∧ w'.cell? xa = some (.int .i64 (rd x.1 0)) from fun w' h' => ⟨pw_cell_below h' hx0, pw_cell_below h' hx1, pw_cell_below h' hxh⟩)
 have HB2 := Aside0.mk hb2
 have HXB := Aside0.mk hxb
 have HYB := Aside0.mk hyb
 have HBW0 := Aside0.mk hbw0
 clear hW2 hb2 hxb hyb hbw0 hx0 hx1 hxh
 go_region_held3 (fun w' => w'.cell? ⟨w.heap.size, 0, none⟩ = some (.slice (some xa) x.1.length c) ∧ w'.cell? ⟨w.heap.size, 1, none⟩ = some (.int .i64 (x.2 : Int)) ∧ w'.cell? xa = some (.int .i64 (rd x.1 0)))
  (first | (refine HSW.out _ ?_; (repeat (first | exact Below.refl _ _ | exact hbw | apply below_alloc | apply below_drew1 | apply pw_below_drewN)); done))
  (first | (go_at_call 80; refine (HNX.out _ (below_weaken HBW0.out HBW0.out.size (by repeat (first | exact Below.refl _ _ | apply below_alloc | apply below_drew1 | apply pw_below_drewN)))).mono ?_; rintro e w1 ⟨rfl, hb1⟩; have hbw := below_step (show Below W2.heap.size W2 _ from by repeat (first | exact Below.refl _ _ | apply below_alloc | apply below_drew1 | apply pw_below_drewN)) hb1))
 have HW1 := Aside0.mk (below_step HB2.out hbw)
 have HW01 := Aside0.mk (below_weaken HB.out HB.out.size (below_step HB2.out hbw))
 have HXB1 := Aside0.mk ((hbw.block _ (blk_lt HXB.out)).trans HXB.out)
 have HYB1 := Aside0.mk ((hbw.block _ (blk_lt HYB.out)).trans HYB.out)
 have HRW := Aside0.mk (HR.out.below (below_step HB2.out hbw))
 obtain ⟨_, e1, hyh, hyl⟩ := HY.out.cell HW01.out HYN.out
 cases e1
 have hyl' : (0 : Int) < (y.1.length : Int) := by omega
 have hy0 : w1.cell? ⟨w.heap.size + 1, 0, none⟩ = some (.slice (some ya) y.1.length c') := (blk_cell HYB1.out 0).trans rfl
 have hy1 : w1.cell? ⟨w.heap.size + 1, 1, none⟩ = some (.int .i64 (y.2 : Int)) := (blk_cell HYB1.out 1).trans rfl
 clear hb1 hbw HXB HYB HSW HBW0
 by_cases h0 : 0 ≤ rd y.1 0
 ·have h := H.out
  rw [if_pos h0] at h
  obtain ⟨b, hb, h⟩ := Option.bind_eq_some_iff.1 h
  have he := (Option.some.inj h).symm
  have d1 : decide ((0 : Int) ≤ rd y.1 0) = true := decide_eq_true h0
  have HW := Aside0.mk hb
  clear h hb H
  cases b
  ·rw [if_neg (by simp)] at he
   have HE := Aside0.mk he
   clear he
   go_wp2_with fail
   refine (within_calls g sv σ k vx y (some ya) c' false w0 w1 HW01.out HG.out HRW.out HY.out HYN.out HW.out).mono ?_
   rintro e w3 ⟨rfl, hb3⟩
   have hyb3 := (hb3.block _ (blk_lt HYB1.out)).trans HYB1.out
   obtain ⟨hl48, cells, hheap, hsz, hc0, hcells⟩ := HRW.out.below hb3
   obtain ⟨B, d, hp0, hp1, _⟩ := hcells vx hvx
   have hz0 : w3.cell? ⟨w.heap.size + 1, 0, none⟩ = some (.slice (some ya) y.1.length c') := (blk_cell hyb3 0).trans rfl
   have hz1 : w3.cell? ⟨w.heap.size + 1, 1, none⟩ = some (.int .i64 (y.2 : Int)) := (blk_cell hyb3 1).trans rfl
   have hr0 : w3.cell? ⟨g, 1 + vx * 2, none⟩ = some (.slice B (ofS σ vx).1.length d) := (blk_cell hheap _).trans hp0
   have hr1 : w3.cell? ⟨g, 1 + vx * 2 + 1, none⟩ = some (.int .i64 ((ofS σ vx).2 : Int)) := (blk_cell hheap _).trans hp1
   have hf0 : w3.frozen? ⟨g, 1 + vx * 2, none⟩ = false := blk_frozen hheap _
   have hf1 : w3.frozen? ⟨g, 1 + vx * 2 + 1, none⟩ = false := blk_frozen hheap _
   have hv0 : (0 : Int) ≤ (vx : Int) := by omega
   have hv1 : (vx : Int) < 48 := by omega
   have HB3 := Aside0.mk (below_step HW1.out hb3)
   have HB03 := Aside0.mk (below_weaken HW01.out HW01.out.size hb3)
   have HC := Aside0.mk (And.intro hl48 (And.intro hheap (And.intro hsz (And.intro hc0 hcells))))
   clear hl48 hheap hsz hc0 hcells hp0 hp1 hyb3 hb3
   go_wp2
   go_region
   go_wp2
   go_ret
   obtain ⟨hl48, hheap, hsz, hc0, hcells⟩ := HC.out
   exact ⟨by rw [HE.out]; rfl, fun σ' e => by rw [HE.out] at e; obtain rfl := Option.some.inj e; exact run_set hl48 hvx (blk_set (blk_set hheap _ _) _ _) hsz hc0 hcells HY.out, KeepBut.set_ (KeepBut.set_ (KeepBut.of_below HB3.out g none) _ _) _ _, below_drew1 (below_set (below_set HB03.out HG.out) HG.out)⟩
  ·rw [if_pos rfl] at he
   have HE := Aside0.mk he
   clear he
   go_wp2_with fail
   refine (within_calls g sv σ k vx y (some ya) c' true w0 w1 HW01.out HG.out HRW.out HY.out HYN.out HW.out).mono ?_
   rintro e w3 ⟨rfl, hb3⟩
   have HB3 := Aside0.mk (below_step HW1.out hb3)
   have HB03 := Aside0.mk (below_weaken HW01.out HW01.out.size hb3)
   go_wp2
   go_ret
   exact ⟨by rw [HE.out]; rfl, (fun σ' e => by rw [HE.out] at e; cases e), KeepBut.of_below HB3.out g none, HB03.out⟩
 ·have h := H.out
  rw [if_neg h0] at h
  have he := (Option.some.inj h).symm
  have d1 : decide ((0 : Int) ≤ rd y.1 0) = false := decide_eq_false h0
  obtain ⟨vy, hvye⟩ : ∃ vy, vy = nm y.2 (rd y.1 0) := ⟨_, rfl⟩
  have HNY := Aside0.mk (show ∀ w2, Below w0.heap.size w0 w2 → Calls Tryd.prog 80 #[.agg #[.slice (some ya) y.1.length c', .int .i64 (y.2 : Int)], .int .i64 (rd y.1 0)] w2 fun e w' => e = .returned (.int .i64 (vy : Int)) ∧ Below w2.heap.size w2 w' from fun w2 h2 => by rw [hvye]; exact number_calls y (some ya) c' _ w0 w2 h2 HY.out (by omega) hylo)
  rw [← hvye] at hvy he
  have HE0 := Aside0.mk he
  clear he
  have HSW := Aside0.mk (show ∀ w', Below w1.heap.size w1 w' → w'.cell? ⟨w.heap.size + 1, 0, none⟩ = some (.slice (some ya) y.1.length c') ∧ w'.cell? ⟨w.heap.size + 1, 1, none⟩ = some (.int .i64 (y.2 : Int)) ∧ w'.cell? ya = some (.int .i64 (rd y.1 0)) from fun w' h' => ⟨pw_cell_below h' hy0, pw_cell_below h' hy1, pw_cell_below h' hyh⟩)
  clear h H hvye h0
  go_wp2
  go_region_held3 (fun w' => w'.cell? ⟨w.heap.size + 1, 0, none⟩ = some (.slice (some ya) y.1.length c') ∧ w'.cell? ⟨w.heap.size + 1, 1, none⟩ = some (.int .i64 (y.2 : Int)) ∧ w'.cell? ya = some (.int .i64 (rd y.1 0)))
   (first | (refine HSW.out _ ?_; (repeat (first | exact Below.refl _ _ | exact hbw | apply below_alloc | apply below_drew1 | apply pw_below_drewN)); done))
   (first | (go_at_call 80; refine (HNY.out _ (below_weaken HW01.out HW01.out.size (by repeat (first | exact Below.refl _ _ | apply below_alloc | apply below_drew1 | apply pw_below_drewN)))).mono ?_; rintro e w3 ⟨rfl, hb3⟩; have hbw := below_step (show Below w1.heap.size w1 _ from by repeat (first | exact Below.refl _ _ | apply below_alloc | apply below_drew1 | apply pw_below_drewN)) hb3))
  have hxb3 := (hbw.block _ (blk_lt HXB1.out)).trans HXB1.out
  have hyb3 := (hbw.block _ (blk_lt HYB1.out)).trans HYB1.out
  have hz0 : w3.cell? ⟨w.heap.size + 1, 0, none⟩ = some (.slice (some ya) y.1.length c') := (blk_cell hyb3 0).trans rfl
  have hz1 : w3.cell? ⟨w.heap.size + 1, 1, none⟩ = some (.int .i64 (y.2 : Int)) := (blk_cell hyb3 1).trans rfl
  have hz2 : w3.cell? ⟨w.heap.size, 0, none⟩ = some (.slice (some xa) x.1.length c) := (blk_cell hxb3 0).trans rfl
  have hz3 : w3.cell? ⟨w.heap.size, 1, none⟩ = some (.int .i64 (x.2 : Int)) := (blk_cell hxb3 1).trans rfl
  have HB3 := Aside0.mk (below_step HW1.out hbw)
  have HB03 := Aside0.mk (below_weaken HW01.out HW01.out.size hbw)
  obtain ⟨hl48, cells, hheap, hsz, hc0, hcells⟩ := HRW.out.below hbw
  have HC := Aside0.mk (And.intro hl48 (And.intro hheap (And.intro hsz (And.intro hc0 hcells))))
  clear hl48 hheap hsz hc0 hcells hb3 hbw hxb3 hyb3
  have hvx0 : (0 : Int) ≤ (vx : Int) := by omega
  have hvx1 : (vx : Int) < 48 := by omega
  have hvy0 : (0 : Int) ≤ (vy : Int) := by omega
  have hvy1 : (vy : Int) < 48 := by omega
  have cl : ∀ n, n < 48 → ∃ B d m b, w3.cell? ⟨g, 1 + n * 2, none⟩ = some (.slice B m d) ∧ w3.cell? ⟨g, 1 + n * 2 + 1, none⟩ = some (.int .i64 b) ∧ w3.frozen? ⟨g, 1 + n * 2, none⟩ = false ∧ w3.frozen? ⟨g, 1 + n * 2 + 1, none⟩ = false := by
   intro n hn
   obtain ⟨hl48, hheap, hsz, hc0, hcells⟩ := HC.out
   obtain ⟨B, d, hp0, hp1, _⟩ := hcells n hn
   exact ⟨B, d, _, _, (blk_cell hheap _).trans hp0, (blk_cell hheap _).trans hp1, blk_frozen hheap _, blk_frozen hheap _⟩
  have CL := Aside0.mk cl
  clear cl
  by_cases h1 : vx < vy
  ·have he := HE0.out
   rw [if_pos h1] at he
   have HE := Aside0.mk he
   clear he HE0
   obtain ⟨B, d, m, b, hr0, hr1, hf0, hf1⟩ := CL.out vy hvy
   have d2 : decide ((vx : Int) < (vy : Int)) = true := by simp; omega
   have d3 : decide (vx < vy) = true := by simpa using h1
   clear h1
   go_wp2
   go_region
   go_wp2
   go_ret
   obtain ⟨hl48, hheap, hsz, hc0, hcells⟩ := HC.out
   exact ⟨by rw [HE.out]; rfl, fun σ' e => by rw [HE.out] at e; obtain rfl := Option.some.inj e; exact run_set hl48 hvy (blk_set (blk_set hheap _ _) _ _) hsz hc0 hcells HX.out, KeepBut.set_ (KeepBut.set_ (KeepBut.of_below HB3.out g none) _ _) _ _, below_drew1 (below_set (below_set HB03.out HG.out) HG.out)⟩
  ·have he := HE0.out
   rw [if_neg h1] at he
   have d2 : decide ((vx : Int) < (vy : Int)) = false := by simp; omega
   have d3 : decide (vx < vy) = false := by simpa using h1
   by_cases h2 : vy < vx
   ·rw [if_pos h2] at he
    have HE := Aside0.mk he
    clear he HE0
    obtain ⟨B, d, m, b, hr0, hr1, hf0, hf1⟩ := CL.out vx hvx
    have d4 : decide ((vy : Int) < (vx : Int)) = true := by simp; omega
    have d5 : decide (vy < vx) = true := by simpa using h2
    clear h1 h2
    go_wp2
    go_region
    go_wp2
    go_ret
    obtain ⟨hl48, hheap, hsz, hc0, hcells⟩ := HC.out
    exact ⟨by rw [HE.out]; rfl, fun σ' e => by rw [HE.out] at e; obtain rfl := Option.some.inj e; exact run_set hl48 hvx (blk_set (blk_set hheap _ _) _ _) hsz hc0 hcells HY.out, KeepBut.set_ (KeepBut.set_ (KeepBut.of_below HB3.out g none) _ _) _ _, below_drew1 (below_set (below_set HB03.out HG.out) HG.out)⟩
   ·rw [if_neg h2] at he
    have HE := Aside0.mk he
    clear he HE0
    have d4 : decide ((vy : Int) < (vx : Int)) = false := by simp; omega
    have d5 : decide (vy < vx) = false := by simpa using h2
    clear h1 h2
    go_wp2
    go_ret
    obtain ⟨hl48, hheap, hsz, hc0, hcells⟩ := HC.out
    exact ⟨by rw [HE.out]; rfl, fun σ' e => by rw [HE.out] at e; obtain rfl := Option.some.inj e; exact ⟨hl48, cells, hheap, hsz, hc0, hcells⟩, KeepBut.of_below HB3.out g none, HB03.out⟩
end Go.Proofs.YteffiodbflmfkaaDoor.PP
namespace Go.Proofs.YteffiodbflmfkaaDoor.PP
open Go Go.RowKit Go.Proofs.YteffiodbflmfkaaDoorW.PrintWords Go.Proofs.YteffiodbflmfkaaDoorW.PrintLast Go.Proofs.YteffiodbflmfkaaDoorW.PrintMore Go.Proofs.YteffiodbflmfkaaDoor
set_option linter.unusedVariables false
set_option linter.unusedSimpArgs false
/-- A row as an element of a row: it lies in an elder world. -/
def kRW (w0 : World) : Kd (List Int) where
 sz := 1
 E := []
 K := fun _ p cs => ∃ A c, cs = [.slice A p.length c] ∧ p.length ≤ c ∧ Kd.C (Kd.int .i64) w0 A p.length p ∧ (p ≠ [] → A ≠ none)
 M := fun _ _ _ p cs => ∃ A c, cs = [.slice A p.length c] ∧ p.length ≤ c ∧ Kd.C (Kd.int .i64) w0 A p.length p ∧ (p ≠ [] → A ≠ none)
 K_len := by
  rintro w x cs ⟨A, c, rfl, _⟩
  rfl
 K_one := by
  rintro w x cs ⟨A, c, rfl, _⟩ u hu
  rw [List.mem_singleton.1 hu]
  rfl
 K_below := fun _ h => h
 K_of_M := fun h => h
 M_mono := fun _ h => h
 M_bound := fun h => h
 M_move := fun _ h => h
 M_lower := fun _ h => h
theorem infoRow : (Tryd.prog.info? 23).map (fun i => (i.zero, i.size, i.bytes)) = some (some (.slice none 0 0), 1, 24) := by kernel_rfl
set_option maxHeartbeats 1000000 in
set_option maxRecDepth 100000 in
theorem pieces_calls (A0 : Option Addr) (c0 : Nat) (l : List S59) (A1 : Option Addr) (c1 : Nat) (r : List Int) (w0 w : World) (hB : Below w0.heap.size w0 w) (hs : SignOk l) (hr48 : r.length ≤ 48)
  (hr0 : Kd.C k59 w A0 l.length l) (hc0 : l.length ≤ c0) (hr1 : Kd.C (Kd.int .i64) w0 A1 r.length r) (hc1 : r.length ≤ c1) :
  Calls Tryd.prog 79 #[.slice A0 l.length c0, .slice A1 r.length c1] w fun e w' =>
   ∃ v, e = .returned v ∧ (kRW w0).R 23 w' w.heap.size (fun _ => True) v (pcs l r) ∧ Below w.heap.size w w' := by
 have HS := Aside0.mk hs
 have HB := Aside0.mk hB
 have HR0 := Aside0.mk hr0
 have HR1 := Aside0.mk hr1
 have HC0 := Aside0.mk hc0
 have HC1 := Aside0.mk hc1
 have HL := Aside0.mk hr48
 clear hs hB hr0 hr1 hc0 hc1 hr48
 obtain ⟨R, hR⟩ : ∃ R, pcs l r = R := ⟨_, rfl⟩
 have HR := Aside0.mk hR
 rw [hR]
 clear hR
 go_enter Tryd.func79, Tryd.ntmps79
 go_wp2
 go_loopg [5, 6] (r.length + 1) (fun kq v5 v6 w' => ∃ (i : Nat) (out : List (List Int)), v6 = .int .i64 (i : Int) ∧ Aside0 (i ≤ r.length ∧ kq + i = r.length + 1) ∧ Aside0 (out ++ pcs l (r.drop i) = R) ∧ Aside0 (out.length ≤ i) ∧ Aside0 ((kRW w0).R 23 w' w.heap.size (fun _ => True) v5 out) ∧ Aside0 (Below w.heap.size w w'))
 case atStart => exact ⟨0, [], rfl, ⟨by omega, by omega⟩, ⟨by simpa using HR.out⟩, ⟨Nat.le_refl _⟩, ⟨Kd.R_nil _ _ _ _ _⟩, ⟨Below.refl _ _⟩⟩
 case round =>
  clear HR
  obtain ⟨i, out, rfl, HI, HR, HO, HT, HBW⟩ := hrel
  have hl := HL.out
  by_cases hi : i < r.length
  ·have d1 : decide ((i : Int) < (r.length : Int)) = true := by simp; omega
   have d2 : decide (i < r.length) = true := by simpa using hi
   obtain ⟨k, hk⟩ := (skip_ev HS.out r (by omega) i (by omega)).rounds
   rcases skip_cases (l := l) r i with ⟨t, s, e, ht⟩ | e
   ·obtain ⟨hv, hdr⟩ := skipV_some (by omega) ht e
    have htl := isN_pos ht
    have hle : i + t.length ≤ r.length := by
     have : (r.drop i).length = t.length + s.length := by rw [e]; simp
     rw [List.length_drop] at this
     omega
    rw [hv] at hk
    obtain ⟨q, hq⟩ : ∃ q, q = i + t.length := ⟨_, rfl⟩
    have htk : (r.take q).drop i = t := by
     rw [hq, List.drop_take, e, show i + t.length - i = t.length by omega]
     simp
    have hR2 : out ++ [t] ++ pcs l (r.drop q) = R := by
     rw [hq, hdr, ← HR.out, e, pcs_cons ht]
     simp
    rw [← hq] at hk hle
    obtain ⟨i0, hi0', _, hsz, _⟩ := info_parts info3
    have hrow := Kd.C_mid (lo := i) (hi := q) (c := c1) HR1.out (by omega) (by omega) HC1.out
    have hql : q - i = t.length := by omega
    obtain ⟨ad, rfl⟩ : ∃ ad, A1 = some ad := by
     obtain ⟨ad, h1, _⟩ := Kd.at_int HR1.out (i : Int) (by omega) (by omega)
     exact ⟨ad, h1⟩
    have hcut := cut_mid (P := Tryd.prog) 23 3 .i64 .i64 Tryd.underlying23 hi0' 1 hsz (some ad) r.length c1 (i : Int) (q : Int) (by omega) (by omega) (by omega) HC1.out
    obtain ⟨TA, hTA⟩ : ∃ TA, TA = (if c1 = i then some ad else (some ad : Option Addr).map (·.add (i * 1))) := ⟨_, rfl⟩
    obtain ⟨tc, htc⟩ : ∃ tc, tc = c1 - i := ⟨_, rfl⟩
    simp only [Int.toNat_natCast] at hcut
    rw [← hTA, ← htc, hql] at hcut
    rw [htk] at hrow
    have hrow' : Kd.C (Kd.int .i64) w0 TA t.length t := by rw [hTA]; exact hrow
    have htlc : t.length ≤ tc := by have := HC1.out; omega
    have htA : t ≠ [] → TA ≠ none := by intro _; rw [hTA]; split <;> simp
    have HK := Aside0.mk hk
    have HR2 := Aside0.mk hR2
    have HROW := Aside0.mk hrow'
    have HTC := Aside0.mk htlc
    have HTA := Aside0.mk htA
    have HQ := Aside0.mk (show i < q ∧ q ≤ r.length by omega)
    have hq0 : (i : Int) ≤ (q : Int) := by omega
    have hq1 : (q : Int) ≤ (r.length : Int) := by omega
    clear hk hR2 hrow hrow' htlc htA hTA htc hq hv hdr hle htk hql hi0' hsz e HR hi ht htl
    go_wp2_with fail
    refine (term_Skip.calls k _ _ l _ _ r (i : Int) (q : Int) true _ (Kd.C_below HR0.out HBW.out) HC0.out (Kd.C_below HR1.out (below_weaken HB.out HB.out.size HBW.out)) HC1.out HK.out).mono ?_
    rintro e w1 ⟨rfl, ⟨nd, rfl⟩⟩
    go_wp2_with (first | ((with_reducible refine gate_builtin (b := .append) (xs := #[.tmp 23, .tmp 28]) rfl ?_); at_builtin; refine Kd.R_append (kRW w0) (w0 := w) w.heap.size rfl (.tmp 23) (.tmp 28) 25 23 (.slice none 0 0) 24 rfl Tryd.underlying25 infoRow rfl Nat.zero_lt_one (by omega) u5 out t [.slice TA t.length tc] (fun _ => True) (fun _ => False) rfl rfl ?hp (fun _ h => h.elim) (fun _ _ => trivial) ?hO ?hB ?hs ?hl ?_; (case hp => exact ⟨TA, tc, rfl, HTC.out, HROW.out, HTA.out⟩); (case hO => exact Kd.R_drewN HT.out _); (case hB => exact pw_below_drewN HBW.out _); (case hs => exact below_size (pw_below_drewN HBW.out _)); (case hl => have := HO.out; have := HQ.out; have := HL.out; omega); intro v5 w5 ho hb hg hat; have n0_ := Aside0.mk hb; have n1_ := Aside0.mk ho; clear ho hb hg hat))
    go_roundg (r.length + 1 - q)
    case measure => have := HI.out; have := HQ.out; omega
    case rel => exact ⟨q, out ++ [t], rfl, ⟨HQ.out.2, by have := HQ.out; omega⟩, HR2, ⟨by have := HO.out; have := HQ.out; simp only [List.length_append, List.length_singleton]; omega⟩, n1_, n0_⟩
   ·have hv : skipV l r i 1 = (0, false) := by unfold skipV; rw [e]
    rw [hv] at hk
    have hR2 : out = R := by
     rw [← HR.out, pcs_none e]
     simp
    subst hR2
    have HK := Aside0.mk hk
    clear hk hv e HR
    go_wp2_with fail
    refine (term_Skip.calls k _ _ l _ _ r (i : Int) 0 false _ (Kd.C_below HR0.out HBW.out) HC0.out (Kd.C_below HR1.out (below_weaken HB.out HB.out.size HBW.out)) HC1.out HK.out).mono ?_
    rintro e w1 ⟨rfl, ⟨nd, rfl⟩⟩
    go_wp2
    go_ret
    exact ⟨_, rfl, Kd.R_drewN HT.out _, pw_below_drewN HBW.out _⟩
  ·have d1 : decide ((i : Int) < (r.length : Int)) = false := by simp; omega
   have d2 : decide (i < r.length) = false := by simpa using hi
   have hR2 : out = R := by
    rw [← HR.out, List.drop_eq_nil_of_le (by omega)]
    simp [pcs, parts]
   subst hR2
   clear HR
   go_wp2
   go_ret
   exact ⟨_, rfl, HT.out, HBW.out⟩

/-- A row of codes in memory, with its shift. -/
structure PcR (w0 : World) (p : Pc) (A : Option Addr) (c : Nat) : Prop where
 room : p.1.length ≤ c
 row : Kd.C (Kd.int .i64) w0 A p.1.length p.1
 ok : PcB p
/-- Two pieces side by side, as an element of a row. -/
def kPP (w0 : World) : Kd (Pc × Pc) where
 sz := 4
 E := []
 K := fun _ p cs => ∃ A c A' c', cs = [.slice A p.1.1.length c, .int .i64 (p.1.2 : Int), .slice A' p.2.1.length c', .int .i64 (p.2.2 : Int)] ∧ PcM w0 p.1 A c ∧ p.1.1 ≠ [] ∧ PcM w0 p.2 A' c' ∧ p.2.1 ≠ []
 M := fun _ _ _ p cs => ∃ A c A' c', cs = [.slice A p.1.1.length c, .int .i64 (p.1.2 : Int), .slice A' p.2.1.length c', .int .i64 (p.2.2 : Int)] ∧ PcM w0 p.1 A c ∧ p.1.1 ≠ [] ∧ PcM w0 p.2 A' c' ∧ p.2.1 ≠ []
 K_len := by
  rintro w x cs ⟨A, c, A', c', rfl, _⟩
  rfl
 K_one := by
  rintro w x cs ⟨A, c, A', c', rfl, _⟩ u hu
  simp only [List.mem_cons, List.not_mem_nil, or_false] at hu
  rcases hu with rfl | rfl | rfl | rfl <;> rfl
 K_below := fun _ h => h
 K_of_M := fun h => h
 M_mono := fun _ h => h
 M_bound := fun h => h
 M_move := fun _ h => h
 M_lower := fun _ h => h
theorem infoPP : (Tryd.prog.info? 98).map (fun i => (i.zero, i.size, i.bytes)) = some (some (.agg #[.slice none 0 0, .int .i64 0, .slice none 0 0, .int .i64 0]), 4, 64) := by kernel_rfl
theorem gtrans {a w w' : World} {row row' : Option Nat} (h : a.grownBy w row) (k : w.grownBy w' row') (hr : row' = row ∨ ∃ b, row' = some b ∧ a.heap.size ≤ b) : a.grownBy w' row := by
 refine ⟨k.os.trans h.os, k.tape.trans h.tape, k.output.trans h.output, Nat.le_trans h.size k.size, fun i hi hne => ?_⟩
 refine (k.block i (Nat.lt_of_lt_of_le hi h.size) ?_).trans (h.block i hi hne)
 rcases hr with rfl | ⟨b, rfl, hb⟩
 ·exact hne
 ·intro e
  injection e with e
  omega
/-- Element i of such a row of rows. -/
theorem rw_at {w0 W : World} {base : Nat} {ok : Nat → Prop} {v : Value} {ps : List (List Int)} (h : (kRW w0).R 23 W base ok v ps) (i : Nat) (hi : i < ps.length) :
  ∃ g cap A c, v = .slice (some ⟨g, 0, none⟩) ps.length cap ∧ base ≤ g ∧ g < W.heap.size ∧ W.cell? ⟨g, i, none⟩ = some (.slice A (ps.getD i []).length c) ∧ (ps.getD i []).length ≤ c ∧ Kd.C (Kd.int .i64) w0 A (ps.getD i []).length (ps.getD i []) ∧ (ps.getD i [] ≠ [] → A ≠ none) := by
 obtain ⟨g, cap, rfl, hg, hlt, _⟩ := Kd.R_form h (by omega)
 obtain ⟨c, hcl, ⟨A, c', hc, h1, h2, h3⟩, hcc⟩ := Kd.R_get h [] (i : Int) (by omega) (by omega)
 rw [Int.toNat_natCast] at hc h1 h2 h3 hcc
 have e0 := hcc 0 (.slice A (ps.getD i []).length c') (by rw [hc]; rfl)
 rw [add_plain] at e0
 refine ⟨g, cap, A, c', rfl, hg, hlt, ?_, h1, h2, h3⟩
 have e1 : i * (kRW w0).sz + 0 = i := by show i * 1 + 0 = i; omega
 rw [e1] at e0
 exact e0
theorem pcs_getD {l : List S59} {r : List Int} {i : Nat} (hi : i < (pcs l r).length) : isN (arS l) 1 ((pcs l r).getD i []) ∧ ((pcs l r).getD i []).length ≤ r.length ∧ ∀ c ∈ (pcs l r).getD i [], c ∈ r := by
 refine (pcs_mem r.length r (Nat.le_refl _)).2 _ ?_
 rw [List.getD_eq_getElem?_getD, List.getElem?_eq_getElem hi]
 exact List.getElem_mem _
theorem zip_take {b b' : Nat} {ps qs : List (List Int)} {i : Nat} (hp : i < ps.length) (hq : i < qs.length) : (zipP b b' ps qs).take (i + 1) = (zipP b b' ps qs).take i ++ [((ps.getD i [], b), (qs.getD i [], b'))] := by
 have hl : i < (zipP b b' ps qs).length := by unfold zipP; rw [List.length_zipWith]; omega
 have e : (zipP b b' ps qs)[i] = ((ps.getD i [], b), (qs.getD i [], b')) := by
  show (List.zipWith (fun s t => ((s, b), (t, b'))) ps qs)[i]'(by rw [List.length_zipWith]; omega) = _
  simp [List.getElem_zipWith, hp, hq]
 rw [List.take_succ_eq_append_getElem hl, e]
end Go.Proofs.YteffiodbflmfkaaDoor.PP
namespace Go.Proofs.YteffiodbflmfkaaDoor.PP
open Go Go.RowKit Go.Proofs.YteffiodbflmfkaaDoorW.PrintWords Go.Proofs.YteffiodbflmfkaaDoorW.PrintLast Go.Proofs.YteffiodbflmfkaaDoorW.PrintMore Go.Proofs.YteffiodbflmfkaaDoor
set_option linter.unusedVariables false
set_option linter.unusedSimpArgs false
set_option maxHeartbeats 1000000 in
set_option maxRecDepth 100000 in
theorem pairs_calls (g : Nat) (A0 : Option Addr) (c0 : Nat) (l : List S59) (σ : List Pc) (x y : Pc) (XA YA : Option Addr) (xc yc : Nat) (out : List (Pc × Pc)) (v : Value) (base : Nat) (ok : Nat → Prop) (w0 wb w : World)
  (hB : Below w0.heap.size w0 w) (hg : w0.heap.size ≤ g) (hR : RunAt w0 w g (.slice A0 l.length c0) σ) (hs : SignOk l) (hr0 : Kd.C k59 w0 A0 l.length l) (hc0 : l.length ≤ c0)
  (hx : PcR w0 x XA xc) (hy : PcR w0 y YA yc) (hlen : (pcs l x.1).length ≤ (pcs l y.1).length)
  (hT : (kPP w0).R 98 w base ok v out) (hbase : base ≤ w.heap.size) (hbw : Below base wb w) (hok : ∀ k, w.heap.size ≤ k → ok k) (hol : out.length ≤ 1000000000000) :
  Calls Tryd.prog 73 #[.pointer (some ⟨g, 0, none⟩), v, .agg #[.slice XA x.1.length xc, .int .i64 (x.2 : Int)], .agg #[.slice YA y.1.length yc, .int .i64 (y.2 : Int)]] w fun e w' =>
   ∃ v', e = .returned v' ∧ (kPP w0).R 98 w' base ok v' (pairsV l out x y) ∧ Below base wb w' ∧ w.grownBy w' v.ownBlock := by
 have hup := Tryd.underlying87
 have hur := Tryd.underlying90
 have hupp := Tryd.underlying98
 have HB := Aside0.mk hB
 have HG := Aside0.mk hg
 have HR := Aside0.mk hR
 have HS := Aside0.mk hs
 have HR0 := Aside0.mk hr0
 have HC0 := Aside0.mk hc0
 have HX := Aside0.mk hx
 have HY := Aside0.mk hy
 have HLEN := Aside0.mk hlen
 have HT := Aside0.mk hT
 have HBASE := Aside0.mk hbase
 have HBW := Aside0.mk hbw
 have HOK := Aside0.mk hok
 have HOL := Aside0.mk hol
 obtain ⟨R, hR⟩ : ∃ R, pairsV l out x y = R := ⟨_, rfl⟩
 rw [hR]
 have HRES := Aside0.mk hR
 clear hB hg hR hs hr0 hc0 hx hy hlen hT hbase hbw hok hol
 clear hR
 go_enter Tryd.func73, Tryd.ntmps73
 go_wp2
 obtain ⟨W2, hW2⟩ : ∃ W2, W2 = (w.alloc (.cells #[.slice XA x.1.length xc, .int .i64 (x.2 : Int)] 87)).alloc (.cells #[.slice YA y.1.length yc, .int .i64 (y.2 : Int)] 87) := ⟨_, rfl⟩
 rw [← hW2]
 have hb2 : Below w.heap.size w W2 := by rw [hW2]; exact below_alloc (below_alloc (Below.refl _ _) _) _
 have hxb : W2.heap[w.heap.size]? = some (.cells #[.slice XA x.1.length xc, .int .i64 (x.2 : Int)] 87 (0, 0)) := by rw [hW2]; exact (alloc2_at w _ _).1
 have hyb : W2.heap[w.heap.size + 1]? = some (.cells #[.slice YA y.1.length yc, .int .i64 (y.2 : Int)] 87 (0, 0)) := by rw [hW2]; exact (alloc2_at w _ _).2
 have hx0 : W2.cell? ⟨w.heap.size, 0, none⟩ = some (.slice XA x.1.length xc) := (blk_cell hxb 0).trans rfl
 have hy0 : W2.cell? ⟨w.heap.size + 1, 0, none⟩ = some (.slice YA y.1.length yc) := (blk_cell hyb 0).trans rfl
 have hs0 : W2.cell? ⟨g, 0, none⟩ = some (.slice A0 l.length c0) := by
  obtain ⟨_, cells, hh, _, hc, _⟩ := HR.out.below hb2
  exact (blk_cell hh 0).trans hc
 have HSW := Aside0.mk (show ∀ w', Below W2.heap.size W2 w' → w'.cell? ⟨w.heap.size, 0, none⟩ = some (.slice XA x.1.length xc) ∧ w'.cell? ⟨w.heap.size + 1, 0, none⟩ = some (.slice YA y.1.length yc) ∧ w'.cell? ⟨g, 0, none⟩ = some (.slice A0 l.length c0) from fun w' h' => ⟨pw_cell_below h' hx0, pw_cell_below h' hy0, pw_cell_below h' hs0⟩)
 have HB2 := Aside0.mk hb2
 have HXB := Aside0.mk hxb
 have HYB := Aside0.mk hyb
 have HBW0 := Aside0.mk (below_weaken HB.out HB.out.size hb2)
 have HPX := Aside0.mk (show ∀ w2, Below W2.heap.size W2 w2 → Calls Tryd.prog 79 #[.slice A0 l.length c0, .slice XA x.1.length xc] w2 fun e w' => ∃ v, e = .returned v ∧ (kRW w0).R 23 w' w2.heap.size (fun _ => True) v (pcs l x.1) ∧ Below w2.heap.size w2 w' from fun w2 h2 => pieces_calls A0 c0 l XA xc x.1 w0 w2 (below_weaken HBW0.out HBW0.out.size h2) HS.out HX.out.ok.len (Kd.C_below HR0.out (below_weaken HBW0.out HBW0.out.size h2)) HC0.out HX.out.row HX.out.room)
 have HPY := Aside0.mk (show ∀ w2, Below W2.heap.size W2 w2 → Calls Tryd.prog 79 #[.slice A0 l.length c0, .slice YA y.1.length yc] w2 fun e w' => ∃ v, e = .returned v ∧ (kRW w0).R 23 w' w2.heap.size (fun _ => True) v (pcs l y.1) ∧ Below w2.heap.size w2 w' from fun w2 h2 => pieces_calls A0 c0 l YA yc y.1 w0 w2 (below_weaken HBW0.out HBW0.out.size h2) HS.out HY.out.ok.len (Kd.C_below HR0.out (below_weaken HBW0.out HBW0.out.size h2)) HC0.out HY.out.row HY.out.room)
 clear hW2 hb2 hxb hyb hx0 hy0 hs0
 go_region_held3 (fun w' => w'.cell? ⟨w.heap.size, 0, none⟩ = some (.slice XA x.1.length xc) ∧ w'.cell? ⟨w.heap.size + 1, 0, none⟩ = some (.slice YA y.1.length yc) ∧ w'.cell? ⟨g, 0, none⟩ = some (.slice A0 l.length c0))
  (first | (refine HSW.out _ ?_; (repeat (first | exact Below.refl _ _ | exact hbwy | exact hbwx | apply below_drew1)); done))
  (first | (go_at_call 79; (with_reducible refine (HPX.out _ ?hb).mono ?_); (case hb => repeat (first | exact Below.refl _ _ | apply below_drew1)); rintro e wx ⟨vx, rfl, hvx, hb⟩; have hbwx := below_step (show Below W2.heap.size W2 _ from by repeat (first | exact Below.refl _ _ | apply below_drew1)) hb)
                              | (go_at_call 79; (with_reducible refine (HPY.out _ hbwx).mono ?_); rintro e wy ⟨vy, rfl, hvy, hb'⟩; have hbwy := below_step hbwx hb'))
 have hvx2 := Kd.R_below hvx hb'
 have hxb3 := (hbwy.block _ (blk_lt HXB.out)).trans HXB.out
 have hyb3 := (hbwy.block _ (blk_lt HYB.out)).trans HYB.out
 have hW3 : Below w.heap.size w wy := below_step HB2.out hbwy
 have hvlt := Kd.R_lt HT.out
 obtain ⟨AX, cx, rfl⟩ := Kd.R_slice hvx2
 have HVX := Aside0.mk (Kd.R_lower hvx2 HB2.out.size)
 have HVY := Aside0.mk (Kd.R_lower hvy (Nat.le_trans HB2.out.size hbwx.size))
 have HXB3 := Aside0.mk hxb3
 have HYB3 := Aside0.mk hyb3
 have HW3 := Aside0.mk hW3
 have HVLT := Aside0.mk hvlt
 have HSZ := Aside0.mk (show w.heap.size + 2 ≤ wy.heap.size from Nat.lt_of_lt_of_le (blk_lt HYB.out) hbwy.size)
 clear hvx hvy hb hb' hbwx hbwy hvx2 hxb3 hyb3 hW3 hvlt HXB HYB HSW HPX HPY HB2 HBW0
 have hm : (pcs l x.1).length ≤ 48 := Nat.le_trans (pcs_mem x.1.length x.1 (Nat.le_refl _)).1 HX.out.ok.len
 have HM := Aside0.mk hm
 clear hm
 go_wp2
 go_loopg [1, 28] ((pcs l x.1).length + 1) (fun kq v1 v28 w' => ∃ (i : Nat), v28 = .int .i64 (i : Int) ∧ Aside0 (i ≤ (pcs l x.1).length ∧ kq + i = (pcs l x.1).length + 1) ∧ Aside0 ((kPP w0).R 98 w' base ok v1 (out ++ (zipP x.2 y.2 (pcs l x.1) (pcs l y.1)).take i)) ∧ Aside0 (Below base wb w') ∧ Aside0 (wy.grownBy w' v.ownBlock) ∧ Aside0 (v1.ownBlock = v.ownBlock ∨ ∃ b, v1.ownBlock = some b ∧ wy.heap.size ≤ b))
 case atStart => exact ⟨0, rfl, ⟨by omega, by omega⟩, ⟨by simpa using Kd.R_below HT.out HW3.out⟩, ⟨below_then HBW.out HBASE.out HW3.out⟩, ⟨World.grownBy.refl _ _⟩, ⟨.inl rfl⟩⟩
 case round =>
  obtain ⟨i, rfl, HI, HT1, HB1, HGR, HOW⟩ := hrel
  by_cases hi : i < (pcs l x.1).length
  ·have hi0 : (0 : Int) ≤ (i : Int) := by omega
   have hi1 : (i : Int) < ((pcs l x.1).length : Int) := by omega
   have hi2 : i < (pcs l y.1).length := by have := HLEN.out; omega
   have hi3 : (i : Int) < ((pcs l y.1).length : Int) := by omega
   have hne : ∀ k, w.heap.size ≤ k → some k ≠ v.ownBlock := fun k hk e => by have := HVLT.out k e.symm; omega
   obtain ⟨gx, capx, PA, pc, e1, hgx0, hgx1, hpx, hpl, hpC, hpA⟩ := rw_at (Kd.R_grown (Kd.R_bound HVX.out) HGR.out (fun k hk => hne k hk.2.1)) i hi
   injection e1 with e1 _ e3
   subst e1 e3
   obtain ⟨gy, capy, QA, qc, rfl, hgy0, hgy1, hqx, hql, hqC, hqA⟩ := rw_at (Kd.R_grown (Kd.R_bound HVY.out) HGR.out (fun k hk => hne k hk.2.1)) i hi2
   have hgxy : gx < wy.heap.size := Kd.R_lt HVX.out gx (by simp [Value.ownBlock])
   have hgyy : gy < wy.heap.size := Kd.R_lt HVY.out gy (by simp [Value.ownBlock])
   obtain ⟨n1, n2, n3⟩ := pcs_getD hi
   obtain ⟨m1, m2, m3⟩ := pcs_getD hi2
   have hzt := zip_take (b := x.2) (b' := y.2) hi hi2
   generalize (pcs l x.1).getD i [] = p at hpx hpl hpC hpA n1 n2 n3 hzt
   generalize (pcs l y.1).getD i [] = q at hqx hql hqC hqA m1 m2 m3 hzt
   have hpn : p ≠ [] := by intro e; rw [e] at n1; have := isN_pos n1; simp at this
   have hqn : q ≠ [] := by intro e; rw [e] at m1; have := isN_pos m1; simp at this
   have hP : PcM w0 (p, x.2) PA pc := ⟨hpl, hpC, ⟨by have := HX.out.ok.len; show p.length ≤ 48; omega, fun c hc => HX.out.ok.lo c (n3 c hc), HX.out.ok.by_⟩, fun e => absurd e hpn, fun _ => hpA hpn⟩
   have hQ : PcM w0 (q, y.2) QA qc := ⟨hql, hqC, ⟨by have := HY.out.ok.len; show q.length ≤ 48; omega, fun c hc => HY.out.ok.lo c (m3 c hc), HY.out.ok.by_⟩, fun e => absurd e hqn, fun _ => hqA hqn⟩
   have hne1 : ∀ k, w.heap.size ≤ k → k < wy.heap.size → some k ≠ u1.ownBlock := by
    intro k hk hk2 e
    rcases HOW.out with h | ⟨b, h, hb⟩
    ·rw [h] at e; exact hne k hk e
    ·rw [h] at e; injection e with e; omega
   have hsz := HSZ.out
   have hx1 : wr.cell? ⟨w.heap.size, 1, none⟩ = some (.int .i64 (x.2 : Int)) := (blk_cell (blk_grown HXB3.out HGR.out (hne _ (Nat.le_refl _))) 1).trans rfl
   have hy1 : wr.cell? ⟨w.heap.size + 1, 1, none⟩ = some (.int .i64 (y.2 : Int)) := (blk_cell (blk_grown HYB3.out HGR.out (hne _ (Nat.le_succ _))) 1).trans rfl
   have HSG := Aside0.mk (show ∀ w', wr.grownBy w' u1.ownBlock → w'.cell? ⟨w.heap.size, 1, none⟩ = some (.int .i64 (x.2 : Int)) ∧ w'.cell? ⟨w.heap.size + 1, 1, none⟩ = some (.int .i64 (y.2 : Int)) ∧ w'.cell? ⟨gx, i, none⟩ = some (.slice PA p.length pc) ∧ w'.cell? ⟨gy, i, none⟩ = some (.slice QA q.length qc) from fun w' h' => ⟨h'.cell hx1 (hne1 _ (Nat.le_refl _) (show w.heap.size < wy.heap.size by omega)), h'.cell hy1 (hne1 _ (Nat.le_succ _) (show w.heap.size + 1 < wy.heap.size by omega)), h'.cell hpx (hne1 _ hgx0 hgxy), h'.cell hqx (hne1 _ hgy0 hgyy)⟩)
   have HP := Aside0.mk hP
   have HQ := Aside0.mk hQ
   have HPN := Aside0.mk hpn
   have HQN := Aside0.mk hqn
   have HZT := Aside0.mk hzt
   have HSZ1 := Aside0.mk (show wy.heap.size ≤ wr.heap.size from HGR.out.size)
   have HW1 := Aside0.mk (wrap_nat i (by have := HM.out; omega))
   clear hP hQ hpn hqn hzt hx1 hy1 hpx hqx hpl hql hpC hqC hpA hqA n1 n2 n3 m1 m2 m3 hne hne1 hsz hgx0 hgx1 hgy0 hgy1
   go_wp2
   go_region_held3 (fun w' => w'.cell? ⟨w.heap.size, 1, none⟩ = some (.int .i64 (x.2 : Int)) ∧ w'.cell? ⟨w.heap.size + 1, 1, none⟩ = some (.int .i64 (y.2 : Int)) ∧ w'.cell? ⟨gx, i, none⟩ = some (.slice PA p.length pc) ∧ w'.cell? ⟨gy, i, none⟩ = some (.slice QA q.length qc))
    (first | exact HSG.out _ hgw | (refine HSG.out _ (grown_of_below ?_ _); (repeat (first | exact Below.refl _ _ | apply below_alloc | apply below_drew1 | apply pw_below_drewN)); done))
    (first | (refine Kd.R_append_step (kPP w0) (w0 := wb) (W := wr.drew) base ?hw (.tmp 31) (.tmp 47) 95 98 (.agg #[.slice none 0 0, .int .i64 0, .slice none 0 0, .int .i64 0]) 64 ?ho Tryd.underlying95 infoPP rfl (Nat.succ_pos 3) (Nat.succ_pos 63) u1 (out ++ (zipP x.2 y.2 (pcs l x.1) (pcs l y.1)).take i) ((p, x.2), (q, y.2)) [.slice PA p.length pc, .int .i64 (x.2 : Int), .slice QA q.length qc, .int .i64 (y.2 : Int)] ok (fun _ => False) ?h1 ?h2 ?hp (fun _ h => h.elim) ?hf ?hO ?hB ?hs ?hl ?_; (case hw => rfl); (case ho => rfl); (case h1 => rfl); (case h2 => rfl); (case hp => exact ⟨PA, pc, QA, qc, rfl, HP.out, HPN.out, HQ.out, HQN.out⟩); (case hf => intro k hk; exact HOK.out k (Nat.le_trans HW3.out.size (Nat.le_trans HSZ1.out hk))); (case hO => exact Kd.R_drew HT1.out); (case hB => exact below_drew1 HB1.out); (case hs => exact Nat.le_trans HBASE.out (Nat.le_trans HW3.out.size HSZ1.out)); (case hl => have := HOL.out; have := HM.out; have := HI.out; rw [List.length_append, List.length_take]; omega); intro v5 w5 ho hb hg hat; have hgw := gtrans (show wr.grownBy _ u1.ownBlock from grown_of_below (below_drew1 (Below.refl _ _)) _) hg (.inl rfl)))
   have hto : R = R := rfl
   have n0_ := Aside0.mk hb
   have n1_ := Aside0.mk ho
   have n2_ := Aside0.mk (gtrans HGR.out hgw (by
    rcases HOW.out with h | ⟨b, h, hb⟩
    ·exact .inl h
    ·exact .inr ⟨b, h, hb⟩))
   have n3_ := Aside0.mk (show v5.ownBlock = v.ownBlock ∨ ∃ b, v5.ownBlock = some b ∧ wy.heap.size ≤ b from by
    rcases hat with h | ⟨b, h, hb⟩
    ·rw [h]; exact HOW.out
    ·exact .inr ⟨b, h, Nat.le_trans HSZ1.out hb⟩)
   clear ho hb hg hat hgw hto
   go_wp2
   go_roundg (gk - 1)
   case measure => have := HI.out; omega
   case rel => exact ⟨i + 1, by first | exact congrArg (Value.int .i64) HW1.out | rfl | go_num | (simp; done), ⟨by have := HI.out; omega, by have := HI.out; omega⟩, ⟨by rw [HZT.out, ← List.append_assoc]; exact n1_.out⟩, n0_, n2_, n3_⟩
  ·have him : i = (pcs l x.1).length := by have := HI.out; omega
   have hT2 := HT1.out
   rw [him, List.take_of_length_le (by unfold zipP; rw [List.length_zipWith]; exact Nat.min_le_left _ _)] at hT2
   have hres : out ++ zipP x.2 y.2 (pcs l x.1) (pcs l y.1) = R := HRES.out
   rw [hres] at hT2
   have d1 : decide ((i : Int) < ((pcs l x.1).length : Int)) = false := by simp; omega
   have d2 : decide (i < (pcs l x.1).length) = false := by simpa using hi
   have HT2 := Aside0.mk hT2
   have HGW := Aside0.mk (show w.grownBy wr v.ownBlock from gtrans (grown_of_below HW3.out _) HGR.out (.inl rfl))
   clear hT2 hres him hi HT1
   go_wp2
   go_ret
   exact ⟨_, rfl, HT2.out, HB1.out, HGW.out⟩
end Go.Proofs.YteffiodbflmfkaaDoor.PP
namespace Go.Proofs.YteffiodbflmfkaaDoor.PP
open Go Go.RowKit Go.Proofs.YteffiodbflmfkaaDoorW.PrintWords Go.Proofs.YteffiodbflmfkaaDoorW.PrintLast Go.Proofs.YteffiodbflmfkaaDoorW.PrintMore Go.Proofs.YteffiodbflmfkaaDoor
set_option linter.unusedVariables false
set_option linter.unusedSimpArgs false
theorem RunAt.belowB {w0 W W1 : World} {g B : Nat} {sv : Value} {σ : List Pc} (h : RunAt w0 W g sv σ) (hb : Below B W W1) (hg : g < B) : RunAt w0 W1 g sv σ := by
 obtain ⟨h1, cells, h2, h3⟩ := h
 exact ⟨h1, cells, (hb.block g hg).trans h2, h3⟩
theorem belowB_of {B : Nat} {W W1 : World} (k : Below W.heap.size W W1) (hB : B ≤ W.heap.size) : Below B W W1 := ⟨k.os, k.tape, k.output, k.size, fun i hi => k.block i (Nat.lt_of_lt_of_le hi hB)⟩
theorem keep_belowB {w W W1 : World} {g B : Nat} (h : KeepBut w W g none) (hb : Below B W W1) (hB : w.heap.size ≤ B) : KeepBut w W1 g none :=
 ⟨Nat.le_trans h.1 hb.size, fun i hi hg hr => (hb.block i (Nat.lt_of_lt_of_le hi hB)).trans (h.2 i hi hg hr)⟩
theorem zne {W : World} {n : Nat} {o : Obj} (h : W.heap[n]? = some o) : n ≠ W.heap.size ∧ W.heap.size ≠ n := by
 have := blk_lt h
 omega
theorem hzal {W : World} {n : Nat} {x o : Obj} (h : W.heap[n]? = some x) : (W.alloc o).heap[n]? = some x := ((below_alloc (Below.refl _ _) o).block n (blk_lt h)).trans h
theorem cells4 {W : World} {b8 b9 : Nat} {t8 t9 : TypeId} {x0 x1 y0 y1 u8 v8 u9 v9 : Value} (h8 : W.heap[b8]? = some (.cells #[u8, v8] t8 (0, 0))) (h9 : W.heap[b9]? = some (.cells #[u9, v9] t9 (0, 0))) (hne : b8 ≠ b9) :
  ((((W.setCell ⟨b8, 0, none⟩ x0).setCell ⟨b8, 1, none⟩ x1).setCell ⟨b9, 0, none⟩ y0).setCell ⟨b9, 1, none⟩ y1).cell? ⟨b8, 0, none⟩ = some x0 ∧ ((((W.setCell ⟨b8, 0, none⟩ x0).setCell ⟨b8, 1, none⟩ x1).setCell ⟨b9, 0, none⟩ y0).setCell ⟨b9, 1, none⟩ y1).cell? ⟨b8, 1, none⟩ = some x1 ∧
  ((((W.setCell ⟨b8, 0, none⟩ x0).setCell ⟨b8, 1, none⟩ x1).setCell ⟨b9, 0, none⟩ y0).setCell ⟨b9, 1, none⟩ y1).cell? ⟨b9, 0, none⟩ = some y0 ∧ ((((W.setCell ⟨b8, 0, none⟩ x0).setCell ⟨b8, 1, none⟩ x1).setCell ⟨b9, 0, none⟩ y0).setCell ⟨b9, 1, none⟩ y1).cell? ⟨b9, 1, none⟩ = some y1 := by
 have e8 := blk_far (p := ⟨b9, 1, none⟩) (blk_far (p := ⟨b9, 0, none⟩) (blk_set (blk_set h8 0 x0) 1 x1) hne y0) hne y1
 have e9 := blk_set (blk_set (blk_far (p := ⟨b8, 1, none⟩) (blk_far (p := ⟨b8, 0, none⟩) h9 (Ne.symm hne) x0) (Ne.symm hne) x1) 0 y0) 1 y1
 exact ⟨(blk_cell e8 0).trans rfl, (blk_cell e8 1).trans rfl, (blk_cell e9 0).trans rfl, (blk_cell e9 1).trans rfl⟩
theorem cells2 {W : World} {b9 : Nat} {t8 t9 : TypeId} {x0 x1 y0 y1 u9 v9 : Value} (h9 : W.heap[b9]? = some (.cells #[u9, v9] t9 (0, 0))) :
  (((W.alloc (.cells #[x0, x1] t8)).setCell ⟨b9, 0, none⟩ y0).setCell ⟨b9, 1, none⟩ y1).cell? ⟨W.heap.size, 0, none⟩ = some x0 ∧ (((W.alloc (.cells #[x0, x1] t8)).setCell ⟨b9, 0, none⟩ y0).setCell ⟨b9, 1, none⟩ y1).cell? ⟨W.heap.size, 1, none⟩ = some x1 ∧
  (((W.alloc (.cells #[x0, x1] t8)).setCell ⟨b9, 0, none⟩ y0).setCell ⟨b9, 1, none⟩ y1).cell? ⟨b9, 0, none⟩ = some y0 ∧ (((W.alloc (.cells #[x0, x1] t8)).setCell ⟨b9, 0, none⟩ y0).setCell ⟨b9, 1, none⟩ y1).cell? ⟨b9, 1, none⟩ = some y1 := by
 have hlt := blk_lt h9
 have hne : W.heap.size ≠ b9 := by omega
 have e8 := blk_far (p := ⟨b9, 1, none⟩) (blk_far (p := ⟨b9, 0, none⟩) (heap_alloc_new W (.cells #[x0, x1] t8)) hne y0) hne y1
 have e9 := blk_set (blk_set (hzal (o := .cells #[x0, x1] t8) h9) 0 y0) 1 y1
 exact ⟨(blk_cell e8 0).trans rfl, (blk_cell e8 1).trans rfl, (blk_cell e9 0).trans rfl, (blk_cell e9 1).trans rfl⟩
theorem cells0 (W : World) (t8 t9 : TypeId) (x0 x1 y0 y1 : Value) : ((W.alloc (.cells #[x0, x1] t8)).alloc (.cells #[y0, y1] t9)).cell? ⟨W.heap.size, 0, none⟩ = some x0 ∧ ((W.alloc (.cells #[x0, x1] t8)).alloc (.cells #[y0, y1] t9)).cell? ⟨W.heap.size, 1, none⟩ = some x1 ∧
  ((W.alloc (.cells #[x0, x1] t8)).alloc (.cells #[y0, y1] t9)).cell? ⟨W.heap.size + 1, 0, none⟩ = some y0 ∧ ((W.alloc (.cells #[x0, x1] t8)).alloc (.cells #[y0, y1] t9)).cell? ⟨W.heap.size + 1, 1, none⟩ = some y1 := by
 have e8 := (alloc2_at W (.cells #[x0, x1] t8) (.cells #[y0, y1] t9)).1
 have e9 := (alloc2_at W (.cells #[x0, x1] t8) (.cells #[y0, y1] t9)).2
 exact ⟨(blk_cell e8 0).trans rfl, (blk_cell e8 1).trans rfl, (blk_cell e9 0).trans rfl, (blk_cell e9 1).trans rfl⟩
theorem and4 {a b c d : Prop} (h : a ∧ b ∧ c ∧ d) : c ∧ d ∧ a ∧ b := ⟨h.2.2.1, h.2.2.2, h.1, h.2.1⟩
theorem zfacts {W : World} {n : Nat} {u v : Value} {t : TypeId} (h : W.heap[n]? = some (.cells #[u, v] t (0, 0))) :
  (W.cell? ⟨n, 0, none⟩ = some u ∧ W.cell? ⟨n, 1, none⟩ = some v ∧ W.frozen? ⟨n, 0, none⟩ = false ∧ W.frozen? ⟨n, 1, none⟩ = false) ∧
  ((∀ o, (W.alloc o).cell? ⟨n, 0, none⟩ = some u) ∧ (∀ o, (W.alloc o).cell? ⟨n, 1, none⟩ = some v) ∧ (∀ o, (W.alloc o).frozen? ⟨n, 0, none⟩ = false) ∧ (∀ o, (W.alloc o).frozen? ⟨n, 1, none⟩ = false)) ∧ n ≠ W.heap.size ∧ W.heap.size ≠ n := by
 have h2 : ∀ o, (W.alloc o).heap[n]? = some (.cells #[u, v] t (0, 0)) := fun o => ((below_alloc (Below.refl _ _) o).block n (blk_lt h)).trans h
 exact ⟨⟨(blk_cell h 0).trans rfl, (blk_cell h 1).trans rfl, blk_frozen h 0, blk_frozen h 1⟩, ⟨fun o => (blk_cell (h2 o) 0).trans rfl, fun o => (blk_cell (h2 o) 1).trans rfl, fun o => blk_frozen (h2 o) 0, fun o => blk_frozen (h2 o) 1⟩, zne h⟩
/-- The last pair of a row of them. -/
theorem pp_last {w0 W : World} {base : Nat} {ok : Nat → Prop} {v : Value} {t : List (Pc × Pc)} {m : Nat} (h : (kPP w0).R 98 W base ok v t) (hm : t.length = m + 1) :
  ∃ g cap A c A' c', v = .slice (some ⟨g, 0, none⟩) (m + 1) cap ∧ m + 1 ≤ cap ∧ W.cell? ⟨g, m * 4, none⟩ = some (.slice A (topP t).1.1.length c) ∧ W.cell? ⟨g, m * 4 + 1, none⟩ = some (.int .i64 ((topP t).1.2 : Int)) ∧
   W.cell? ⟨g, m * 4 + 2, none⟩ = some (.slice A' (topP t).2.1.length c') ∧ W.cell? ⟨g, m * 4 + 3, none⟩ = some (.int .i64 ((topP t).2.2 : Int)) ∧ PcM w0 (topP t).1 A c ∧ (topP t).1.1 ≠ [] ∧ PcM w0 (topP t).2 A' c' ∧ (topP t).2.1 ≠ [] ∧
   (kPP w0).R 98 W base ok (.slice (some ⟨g, 0, none⟩) m cap) (t.take (t.length - 1)) ∧ ok g := by
 obtain ⟨g, cap, rfl, hg⟩ := Kd.R_form h (by omega)
 obtain ⟨h1, h2, h3⟩ := Kd.R_reads' h
 have hokg : ok g := h.1 g (by simp [Value.ownBlock])
 have htk := Kd.R_take h (m := m) (by omega)
 rw [hm] at h ⊢
 obtain ⟨c, hcl, ⟨A, c1, A', c2, hc, hM1, hn1, hM2, hn2⟩, hcc⟩ := Kd.R_get h (pc0, pc0) (m : Int) (by omega) (by omega)
 have ht : t.getD ((m : Nat) : Int).toNat (pc0, pc0) = topP t := by
  unfold topP
  rw [hm]
  rfl
 rw [ht] at hc hM1 hn1 hM2 hn2
 have e0 := hcc 0 (.slice A (topP t).1.1.length c1) (by rw [hc]; rfl)
 have e1 := hcc 1 (.int .i64 ((topP t).1.2 : Int)) (by rw [hc]; rfl)
 have e2 := hcc 2 (.slice A' (topP t).2.1.length c2) (by rw [hc]; rfl)
 have e3 := hcc 3 (.int .i64 ((topP t).2.2 : Int)) (by rw [hc]; rfl)
 rw [add_plain] at e0 e1 e2 e3
 exact ⟨g, cap, A, c1, A', c2, rfl, by omega, e0, e1, e2, e3, hM1, hn1, hM2, hn2, htk, hokg⟩
set_option maxHeartbeats 40000000 in
set_option maxRecDepth 100000 in
theorem same_calls (g : Nat) (A0 : Option Addr) (c0 : Nat) (l : List S59) (σ : List Pc) (k : Nat) (a b : Pc) (XA YA : Option Addr) (xc yc : Nat) (R : Option (List Pc)) (w0 w : World)
  (hB : Below w0.heap.size w0 w) (hg : w0.heap.size ≤ g) (hR : RunAt w0 w g (.slice A0 l.length c0) σ) (hs : SignOk l) (hr0 : Kd.C k59 w0 A0 l.length l) (hc0 : l.length ≤ c0)
  (hx : PcR w0 a XA xc) (hy : PcR w0 b YA yc) (hlen : (pcs l a.1).length ≤ (pcs l b.1).length) (h : sameF l k σ (pairsV l [] a b) = some R) :
  Calls Tryd.prog 68 #[.pointer (some ⟨g, 0, none⟩), .agg #[.slice XA a.1.length xc, .int .i64 (a.2 : Int)], .agg #[.slice YA b.1.length yc, .int .i64 (b.2 : Int)]] w fun e w' =>
   e = .returned (.bool R.isSome) ∧ (∀ σ', R = some σ' → RunAt w0 w' g (.slice A0 l.length c0) σ') ∧ KeepBut w w' g none ∧ Below w0.heap.size w0 w' := by
 have hup := Tryd.underlying87
 have hur := Tryd.underlying90
 have hupp := Tryd.underlying98
 have HB := Aside0.mk hB
 have HG := Aside0.mk hg
 have HR := Aside0.mk hR
 have HS := Aside0.mk hs
 have HR0 := Aside0.mk hr0
 have HC0 := Aside0.mk hc0
 have HX := Aside0.mk hx
 have HY := Aside0.mk hy
 have HLEN := Aside0.mk hlen
 have H := Aside0.mk h
 have HGLT := Aside0.mk hR.lt
 clear hB hg hR hs hr0 hc0 hx hy hlen h
 go_enter Tryd.func68, Tryd.ntmps68
 go_wp2
 refine wp_scope_any 0 (by rfl) ?_
 go_wp2_with fail
 refine (pairs_calls g A0 c0 l σ a b XA YA xc yc [] (.slice none 0 0) w.heap.size (fun q => w.heap.size + 2 ≤ q) w0 w _ (below_weaken HB.out HB.out.size (below_alloc (below_alloc (Below.refl _ _) _) _)) HG.out (HR.out.below (below_alloc (below_alloc (Below.refl _ _) _) _)) HS.out HR0.out HC0.out HX.out HY.out HLEN.out (Kd.R_nil _ _ _ _ _) (below_alloc (below_alloc (Below.refl _ _) _) _ : Below w.heap.size w _).size (below_alloc (below_alloc (Below.refl _ _) _) _) (fun q hq => by rw [alloc2_size] at hq; exact hq) (by simp)).mono ?_
 rintro e w1 ⟨v7, rfl, hT, hbw, hgr⟩
 have HT := Aside0.mk hT
 have HK0 := Aside0.mk (KeepBut.of_below hbw g none)
 have HB01 := Aside0.mk (below_weaken HB.out HB.out.size hbw)
 have HR1 := Aside0.mk (HR.out.below hbw)
 clear hT hgr hbw
 go_wp2
 go_step3
 go_step
 go_step
 refine wp_jumped_loop 0 (fun kq a' w' => ∃ u3 u6 u7 u8 u9 u10 u11 u12 u13 u14 u15 u16 u17 u18 u19 u20 u21 u22 u23 u24 u25 u26 u27 u28 u29 u30 u31 u32 u33 u34 u35 u36 u37 u38 u39 u40 u41 u42 u43 u44 u45 u46 u47 u48 u49 u50 u51 u52 u53 u54 u55 u56 u57 u58 u59 u60 u61 u62 u63 u64 u65 u66 u67 u68 u69 u70 u71 u72 u73 u74 u75 u76 u77 u78 u79 u80 u81 u82 u83 u84 : Value, (∃ (τ : List Pc) (t : List (Pc × Pc)), Aside0 (kq ≤ k) ∧ Aside0 (sameF l kq τ t = some R) ∧ Aside0 (RunAt w0 w' g (.slice A0 l.length c0) τ) ∧ Aside0 ((kPP w0).R 98 w' w.heap.size (fun q => w.heap.size + 2 ≤ q) u7 t) ∧ Aside0 (KeepBut w w' g none) ∧ Aside0 (Below w0.heap.size w0 w')) ∧ a' = ⟨#[.pointer (some ⟨g, 0, none⟩), .agg #[.slice XA a.1.length xc, .int .i64 (a.2 : Int)], .agg #[.slice YA b.1.length yc, .int .i64 (b.2 : Int)], u3, .pointer (some ⟨w.heap.size, 0, none⟩), .pointer (some ⟨w.heap.size + 1, 0, none⟩), u6, u7, u8, u9, u10, u11, u12, u13, u14, u15, u16, u17, u18, u19, u20, u21, u22, u23, u24, u25, u26, u27, u28, u29, u30, u31, u32, u33, u34, u35, u36, u37, u38, u39, u40, u41, u42, u43, u44, u45, u46, u47, u48, u49, u50, u51, u52, u53, u54, u55, u56, u57, u58, u59, u60, u61, u62, u63, u64, u65, u66, u67, u68, u69, u70, u71, u72, u73, u74, u75, u76, u77, u78, u79, u80, u81, u82, u83, u84], []⟩) k ?_ ?_
 ·(repeat apply Exists.intro); refine ⟨?_, rfl⟩
  exact ⟨σ, pairsV l [] a b, ⟨Nat.le_refl _⟩, H, HR1, HT, HK0, HB01⟩
 ·intro gk _ wr hinv
  obtain ⟨u3, u6, u7, u8, u9, u10, u11, u12, u13, u14, hinv⟩ := hinv
  obtain ⟨u15, u16, u17, u18, u19, u20, u21, u22, u23, u24, hinv⟩ := hinv
  obtain ⟨u25, u26, u27, u28, u29, u30, u31, u32, u33, u34, hinv⟩ := hinv
  obtain ⟨u35, u36, u37, u38, u39, u40, u41, u42, u43, u44, hinv⟩ := hinv
  obtain ⟨u45, u46, u47, u48, u49, u50, u51, u52, u53, u54, hinv⟩ := hinv
  obtain ⟨u55, u56, u57, u58, u59, u60, u61, u62, u63, u64, hinv⟩ := hinv
  obtain ⟨u65, u66, u67, u68, u69, u70, u71, u72, u73, u74, hinv⟩ := hinv
  obtain ⟨u75, u76, u77, u78, u79, u80, u81, u82, u83, u84, hrel, ha⟩ := hinv
  subst ha
  try dsimp only
  intro _ _ _ _
  clear H HR HT HK0 HB01 HR1
  obtain ⟨τ, t, HK, H, HR, HT, HKP, HB1⟩ := hrel
  cases gk with
  | zero => exact absurd H.out (by simp [sameF])
  | succ k1 =>
   have h := H.out
   clear H
   simp only [sameF] at h
   have hwsz := HKP.out.1
   by_cases ht : t.length = 0
   ·rw [if_pos ht] at h
    have HE := Aside0.mk (Option.some.inj h).symm
    obtain ⟨TA, tc, rfl⟩ := Kd.R_slice HT.out
    rw [ht]
    have hte : t = [] := List.length_eq_zero_iff.1 ht
    clear h ht HT
    go_wp2
    (try rw [jump_ret])
    go_ret
    exact ⟨by rw [HE.out]; rfl, fun σ' e => by rw [HE.out] at e; obtain rfl := Option.some.inj e; exact HR.out, HKP.out, HB1.out⟩
   ·rw [if_neg ht] at h
    by_cases h1000 : 1000000000 < t.length
    ·rw [if_pos h1000] at h
     cases h
    ·rw [if_neg h1000] at h
     obtain ⟨x, hwx, h⟩ := Option.bind_eq_some_iff.1 h
     obtain ⟨y, hwy, h⟩ := Option.bind_eq_some_iff.1 h
     obtain ⟨m, hm⟩ : ∃ m, t.length = m + 1 := ⟨t.length - 1, by omega⟩
     obtain ⟨bt, cap, PA, pc, QA, qc, rfl, hcap, hq0, hq1, hq2, hq3, hpm, hpne, hqm, hqne, htk, hb2⟩ := pp_last HT.out hm
     obtain ⟨⟨p, q⟩, hpq⟩ : ∃ pq, topP t = pq := ⟨_, rfl⟩
     rw [hpq] at hwx hwy hq0 hq1 hq2 hq3 hpm hpne hqm hqne
     simp only at hwx hwy hq0 hq1 hq2 hq3 hpm hpne hqm hqne
     have HWX := Aside0.mk (show ∀ w2, Below wr.heap.size wr w2 → Calls Tryd.prog 74 #[.pointer (some ⟨g, 0, none⟩), .agg #[.slice PA p.1.length pc, .int .i64 (p.2 : Int)]] w2 fun e w' => ∃ A' c', e = .returned (.agg #[.slice A' x.1.length c', .int .i64 (x.2 : Int)]) ∧ PcM w0 x A' c' ∧ x.1 ≠ [] ∧ Below w2.heap.size w2 w' from fun w2 h2 => what_calls g _ τ k1 p x PA pc w0 w2 (below_weaken HB1.out HB1.out.size h2) HG.out (HR.out.below h2) hpm hpne hwx)
     have HWY := Aside0.mk (show ∀ w2, Below wr.heap.size wr w2 → Calls Tryd.prog 74 #[.pointer (some ⟨g, 0, none⟩), .agg #[.slice QA q.1.length qc, .int .i64 (q.2 : Int)]] w2 fun e w' => ∃ A' c', e = .returned (.agg #[.slice A' y.1.length c', .int .i64 (y.2 : Int)]) ∧ PcM w0 y A' c' ∧ y.1 ≠ [] ∧ Below w2.heap.size w2 w' from fun w2 h2 => what_calls g _ τ k1 q y QA qc w0 w2 (below_weaken HB1.out HB1.out.size h2) HG.out (HR.out.below h2) hqm hqne hwy)
     have HSW := Aside0.mk (show ∀ w', Below wr.heap.size wr w' → w'.cell? ⟨bt, m * 4, none⟩ = some (.slice PA p.1.length pc) ∧ w'.cell? ⟨bt, m * 4 + 1, none⟩ = some (.int .i64 (p.2 : Int)) ∧ w'.cell? ⟨bt, m * 4 + 2, none⟩ = some (.slice QA q.1.length qc) ∧ w'.cell? ⟨bt, m * 4 + 3, none⟩ = some (.int .i64 (q.2 : Int)) from fun w' h' => ⟨pw_cell_below h' hq0, pw_cell_below h' hq1, pw_cell_below h' hq2, pw_cell_below h' hq3⟩)
     have hwr : IntKind.i64.wrap (m : Int) = (m : Int) := IntWalk.i64_in _ (by omega)
     have hm0 : (0 : Int) ≤ (m : Int) := by omega
     have hmb : (m : Int) < (m : Int) + 1 := by omega
     have hmc : (m : Int) < ((m + 1 : Nat) : Int) := by omega
     have HH := Aside0.mk h
     have HM := Aside0.mk hm
     have HTK := Aside0.mk htk
     have HCAP := Aside0.mk hcap
     have HBT := Aside0.mk hb2
     have H1000 := Aside0.mk h1000
     clear h hm htk hcap hb2 h1000 ht HT hq0 hq1 hq2 hq3 hpm hpne hqm hqne hwx hwy hpq
     go_wp2
     go_cut [8, 9] from 10 to 84 (fun v8 v9 wx => ∃ (b8 b9 : Nat) (XB : Option Addr) (xd : Nat) (YB : Option Addr) (yd : Nat), v8 = .pointer (some ⟨b8, 0, none⟩) ∧ v9 = .pointer (some ⟨b9, 0, none⟩) ∧ Aside0 (wx.cell? ⟨b8, 0, none⟩ = some (.slice XB x.1.length xd) ∧ wx.cell? ⟨b8, 1, none⟩ = some (.int .i64 (x.2 : Int)) ∧ wx.cell? ⟨b9, 0, none⟩ = some (.slice YB y.1.length yd) ∧ wx.cell? ⟨b9, 1, none⟩ = some (.int .i64 (y.2 : Int))) ∧ Aside0 (PcM w0 x XB xd) ∧ Aside0 (x.1 ≠ []) ∧ Aside0 (PcM w0 y YB yd) ∧ Aside0 (y.1 ≠ []) ∧ Aside0 (wr.heap.size ≤ b8 ∧ wr.heap.size ≤ b9) ∧ Aside0 (Below wr.heap.size wr wx))
     case first =>
      go_region_held3 (fun w' => w'.cell? ⟨bt, m * 4, none⟩ = some (.slice PA p.1.length pc) ∧ w'.cell? ⟨bt, m * 4 + 1, none⟩ = some (.int .i64 (p.2 : Int)) ∧ w'.cell? ⟨bt, m * 4 + 2, none⟩ = some (.slice QA q.1.length qc) ∧ w'.cell? ⟨bt, m * 4 + 3, none⟩ = some (.int .i64 (q.2 : Int)))
       (first | (refine HSW.out _ ?_; (repeat (first | exact Below.refl _ _ | exact hbw3 | exact hbw1 | apply below_alloc | apply below_drew1 | apply pw_below_drewN | refine below_set ?_ (by first | exact Nat.le_refl _ | omega))); done))
       (first | (go_at_call 74; (with_reducible refine (HWX.out _ ?hb).mono ?_); (case hb => repeat (first | exact Below.refl _ _ | apply below_alloc | apply below_drew1)); rintro e w1 ⟨XB, xd, rfl, hxm, hxn, hb1⟩; have hbw1 := below_step (show Below wr.heap.size wr _ from by repeat (first | exact Below.refl _ _ | apply below_alloc | apply below_drew1)) hb1; have hs1 := hbw1.size; have HXM := Aside0.mk hxm; have HXN := Aside0.mk hxn; clear hxm hxn;
                                              (try have za1 := (hb1.block _ (blk_lt (alloc2_at wr _ _).1)).trans (alloc2_at wr _ _).1); (try have zb1 := (hb1.block _ (blk_lt (alloc2_at wr _ _).2)).trans (alloc2_at wr _ _).2); (try have za1 := (hb1.block _ (blk_lt (heap_alloc_new wr _))).trans (heap_alloc_new wr _)); (try have hn1 := zne za1); (try have hn2 := zne zb1))
                                   | (go_at_call 74; (with_reducible refine (HWY.out _ ?hb).mono ?_); (case hb => repeat (first | exact hbw1 | apply below_alloc | apply below_drew1)); rintro e w3 ⟨YB, yd, rfl, hym, hyn, hb3⟩; have hb13 := below_step (show Below w1.heap.size w1 _ from by repeat (first | exact Below.refl _ _ | apply below_alloc | apply below_drew1)) hb3; have hbw3 := below_step hbw1 hb13; have hs3 := hbw3.size; have hs13 := hb13.size; have HYM := Aside0.mk hym; have HYN := Aside0.mk hyn; clear hym hyn;
                                              (try (have HZA := Aside0.mk ((hb13.block _ (blk_lt za1)).trans za1); have za3 := zfacts HZA.out)); (try (have HZB := Aside0.mk ((hb13.block _ (blk_lt zb1)).trans zb1); have zb3 := zfacts HZB.out));
                                              (try (have HZC := Aside0.mk ((hb3.block _ (blk_lt (alloc2_at w1 _ _).1)).trans (alloc2_at w1 _ _).1); have zc3 := zfacts HZC.out)); (try (have HZD := Aside0.mk ((hb3.block _ (blk_lt (alloc2_at w1 _ _).2)).trans (alloc2_at w1 _ _).2); have zd3 := zfacts HZD.out)); (try (have HZC := Aside0.mk ((hb3.block _ (blk_lt (heap_alloc_new w1 _))).trans (heap_alloc_new w1 _)); have zc3 := zfacts HZC.out))))
      all_goals (go_wp2; go_meet; exact ⟨_, _, XB, xd, YB, yd, rfl, rfl, ⟨by with_reducible first | exact cells0 _ _ _ _ _ _ _ | exact and4 (cells0 _ _ _ _ _ _ _) | exact cells2 HZA.out | exact cells2 HZC.out | exact cells4 HZA.out HZB.out (by omega) | exact cells4 HZB.out HZA.out (by omega) | exact cells4 HZA.out HZC.out (by omega) | exact cells4 HZC.out HZA.out (by omega) | exact cells4 HZC.out HZD.out (by omega) | exact cells4 HZD.out HZC.out (by omega) | exact cells4 (hzal HZA.out) (heap_alloc_new _ _) (by omega) | exact cells4 (hzal HZC.out) (heap_alloc_new _ _) (by omega)⟩, HXM, HXN, HYM, HYN, ⟨by omega, by omega⟩, ⟨by with_reducible repeat (first | exact hbw3 | apply below_alloc | refine below_set ?_ (by omega))⟩⟩)
     case rest =>
      obtain ⟨b8, b9, XB, xd, YB, yd, rfl, rfl, HC4, HXM, HXN, HYM, HYN, HBB, HBC⟩ := hcut
      obtain ⟨hc80, hc81, hc90, hc91⟩ := HC4.out
      have hbc0 := below_weaken HB1.out HB1.out.size HBC.out
      obtain ⟨xa, rfl, hxh, hxl⟩ := HXM.out.cell hbc0 HXN.out
      obtain ⟨ya, rfl, hyh, hyl⟩ := HYM.out.cell hbc0 HYN.out
      have hxl' : (0 : Int) < (x.1.length : Int) := by omega
      have hyl' : (0 : Int) < (y.1.length : Int) := by omega
      obtain ⟨i0, hi0', _, hsz, _⟩ := info_parts infoPP
      have hcut := cut_to (P := Tryd.prog) 95 98 .i64 Tryd.underlying95 hi0' (some (⟨bt, 0, none⟩ : Addr)) (m + 1) cap (m : Int) (by omega) (by omega) HCAP.out
      simp only [Int.toNat_natCast] at hcut
      have HTC := Aside0.mk (Kd.R_below HTK.out HBC.out)
      have HRC := Aside0.mk (HR.out.below HBC.out)
      have HKC := Aside0.mk (keep_belowB HKP.out HBC.out HKP.out.1)
      have HBC0 := Aside0.mk hbc0
      have hbt : bt < wr.heap.size := Kd.R_lt HTK.out bt (by simp [Value.ownBlock])
      have HBTL := Aside0.mk hbt
      have HSZC := Aside0.mk (show w.heap.size ≤ wc.heap.size from Nat.le_trans HKP.out.1 HBC.out.size)
      have hwle : w0.heap.size ≤ w.heap.size := HB.out.size
      have HWLE := Aside0.mk hwle
      clear hbc0 hi0' hsz hbt hwle HSW HWX HWY HC4
      have h := HH.out
      by_cases hxv : rd x.1 0 < 0
      ·rw [if_pos hxv] at h
       obtain ⟨q', hput, h⟩ := Option.bind_eq_some_iff.1 h
       have d1 : decide (rd x.1 0 < 0) = true := decide_eq_true hxv
       have HPUT := Aside0.mk hput
       have HN := Aside0.mk h
       have HXV := Aside0.mk hxv
       clear h hput HH hxv
       go_wp2_with fail
       refine (put_calls g _ τ k1 x y (some xa) (some ya) xd yd q' w0 wc HBC0.out HG.out HRC.out HXM.out HXN.out HXV.out HYM.out HYN.out HPUT.out).mono ?_
       rintro e w5 ⟨rfl, hrun, hkeep, hbel⟩
       have HK5 := Aside0.mk (HKC.out.trans hkeep (.inl rfl))
       have HB5 := Aside0.mk hbel
       have HT5 := Aside0.mk (Kd.R_keep HTC.out hkeep (fun k hk => by have := HGLT.out; omega))
       have HR5 := Aside0.mk hrun
       clear hrun hkeep hbel
       cases q' with
       | none =>
        have he := HN.out
        simp only at he
        have HE := Aside0.mk (Option.some.inj he).symm
        clear he HN
        go_wp2
        (try rw [jump_ret])
        go_ret
        exact ⟨by rw [HE.out]; rfl, (fun σ' e => by rw [HE.out] at e; cases e), HK5.out, HB5.out⟩
       | some τ' =>
        have he := HN.out
        simp only at he
        have H' := Aside0.mk he
        have HR6 := Aside0.mk (HR5.out τ' rfl)
        clear he HN HR5
        go_wp2
        go_step3
        refine And.intro rfl ?_
        go_step
        go_roundg k1
        case measure => have := HK.out; omega
        case rel => exact ⟨τ', _, ⟨by have := HK.out; omega⟩, H', HR6, HT5, HK5, HB5⟩
      ·rw [if_neg hxv] at h
       have d1 : decide (rd x.1 0 < 0) = false := decide_eq_false hxv
       by_cases hyv : rd y.1 0 < 0
       ·rw [if_pos hyv] at h
        obtain ⟨q', hput, h⟩ := Option.bind_eq_some_iff.1 h
        have d2 : decide (rd y.1 0 < 0) = true := decide_eq_true hyv
        have HPUT := Aside0.mk hput
        have HN := Aside0.mk h
        have HYV := Aside0.mk hyv
        clear h hput HH hyv hxv
        go_wp2_with fail
        refine (put_calls g _ τ k1 y x (some ya) (some xa) yd xd q' w0 wc HBC0.out HG.out HRC.out HYM.out HYN.out HYV.out HXM.out HXN.out HPUT.out).mono ?_
        rintro e w5 ⟨rfl, hrun, hkeep, hbel⟩
        have HK5 := Aside0.mk (HKC.out.trans hkeep (.inl rfl))
        have HB5 := Aside0.mk hbel
        have HT5 := Aside0.mk (Kd.R_keep HTC.out hkeep (fun k hk => by have := HGLT.out; omega))
        have HR5 := Aside0.mk hrun
        clear hrun hkeep hbel
        cases q' with
        | none =>
         have he := HN.out
         simp only at he
         have HE := Aside0.mk (Option.some.inj he).symm
         clear he HN
         go_wp2
         (try rw [jump_ret])
         go_ret
         exact ⟨by rw [HE.out]; rfl, (fun σ' e => by rw [HE.out] at e; cases e), HK5.out, HB5.out⟩
        | some τ' =>
         have he := HN.out
         simp only at he
         have H' := Aside0.mk he
         have HR6 := Aside0.mk (HR5.out τ' rfl)
         clear he HN HR5
         go_wp2
         go_step3
         refine And.intro rfl ?_
         go_step
         go_roundg k1
         case measure => have := HK.out; omega
         case rel => exact ⟨τ', _, ⟨by have := HK.out; omega⟩, H', HR6, HT5, HK5, HB5⟩
       ·rw [if_neg hyv] at h
        have d2 : decide (rd y.1 0 < 0) = false := decide_eq_false hyv
        by_cases hne : rd x.1 0 ≠ rd y.1 0
        ·rw [if_pos hne] at h
         have HE := Aside0.mk (Option.some.inj h).symm
         have e1 : (rd x.1 0 != rd y.1 0) = true := by simpa using hne
         have e2 : (rd x.1 0 == rd y.1 0) = false := by simpa using hne
         clear h HH hxv hyv hne
         go_wp2
         go_quiet (fail)
         go_wp2
         (try rw [jump_ret])
         go_ret
         exact ⟨by rw [HE.out]; rfl, (fun σ' e => by rw [HE.out] at e; cases e), by repeat (first | exact HKC.out | apply keep_drewN), by repeat (first | (with_reducible first | exact HBC0.out | apply below_alloc | apply pw_below_drewN | apply below_drew1) | exact HBC0.out)⟩
        ·rw [if_neg hne] at h
         by_cases hlt : (pcs l (y.1.drop 1)).length < (pcs l (x.1.drop 1)).length
         ·rw [if_pos hlt] at h
          cases h
         ·rw [if_neg hlt] at h
          have hne := Classical.not_not.1 hne
          have H' := Aside0.mk h
          obtain ⟨j0, hj0', _, hjs, _⟩ := info_parts info3
          have hcx := cut_from (P := Tryd.prog) 23 3 .i64 Tryd.underlying23 hj0' 1 hjs (some xa) x.1.length xd 1 (by omega) (by omega)
          have hcy := cut_from (P := Tryd.prog) 23 3 .i64 Tryd.underlying23 hj0' 1 hjs (some ya) y.1.length yd 1 (by omega) (by omega)
          have hrx := Kd.C_drop (m := 1) (c := xd) HXM.out.row (by omega) HXM.out.room
          have hry := Kd.C_drop (m := 1) (c := yd) HYM.out.row (by omega) HYM.out.room
          have t1 : (1 : Int).toNat = 1 := rfl
          rw [t1] at hcx hcy
          obtain ⟨XT, hXT⟩ : ∃ XT, XT = (if xd = 1 then some xa else (some xa : Option Addr).map (·.add (1 * 1))) := ⟨_, rfl⟩
          obtain ⟨YT, hYT⟩ : ∃ YT, YT = (if yd = 1 then some ya else (some ya : Option Addr).map (·.add (1 * 1))) := ⟨_, rfl⟩
          rw [← hXT] at hcx
          rw [← hYT] at hcy
          have hPX : PcR w0 (x.1.drop 1, x.2) XT (xd - 1) := ⟨by show (x.1.drop 1).length ≤ _; rw [List.length_drop]; have := HXM.out.room; omega, by rw [hXT]; exact hrx, ⟨by show (x.1.drop 1).length ≤ 48; rw [List.length_drop]; have := HXM.out.ok.len; omega, fun c hc => HXM.out.ok.lo c (List.mem_of_mem_drop hc), HXM.out.ok.by_⟩⟩
          have hPY : PcR w0 (y.1.drop 1, y.2) YT (yd - 1) := ⟨by show (y.1.drop 1).length ≤ _; rw [List.length_drop]; have := HYM.out.room; omega, by rw [hYT]; exact hry, ⟨by show (y.1.drop 1).length ≤ 48; rw [List.length_drop]; have := HYM.out.ok.len; omega, fun c hc => HYM.out.ok.lo c (List.mem_of_mem_drop hc), HYM.out.ok.by_⟩⟩
          have HPAIR := Aside0.mk (show ∀ w2, Below wc.heap.size wc w2 → Calls Tryd.prog 73 #[.pointer (some ⟨g, 0, none⟩), .slice (some ⟨bt, 0, none⟩) m cap, .agg #[.slice XT (x.1.length - 1) (xd - 1), .int .i64 (x.2 : Int)], .agg #[.slice YT (y.1.length - 1) (yd - 1), .int .i64 (y.2 : Int)]] w2 fun e w' => ∃ v', e = .returned v' ∧ (kPP w0).R 98 w' w.heap.size (fun q => w.heap.size + 2 ≤ q) v' (pairsV l (t.take (t.length - 1)) (x.1.drop 1, x.2) (y.1.drop 1, y.2)) ∧ Below w.heap.size w2 w' ∧ w2.grownBy w' (Value.slice (some ⟨bt, 0, none⟩) m cap).ownBlock from fun w2 h2 => by
           have hh := pairs_calls g A0 c0 l τ (x.1.drop 1, x.2) (y.1.drop 1, y.2) XT YT (xd - 1) (yd - 1) (t.take (t.length - 1)) (.slice (some ⟨bt, 0, none⟩) m cap) w.heap.size (fun q => w.heap.size + 2 ≤ q) w0 w2 w2 (below_weaken HBC0.out HBC0.out.size h2) HG.out (HRC.out.below h2) HS.out HR0.out HC0.out hPX hPY (Nat.le_of_not_lt hlt) (Kd.R_below HTC.out h2) (Nat.le_trans HSZC.out h2.size) ⟨rfl, rfl, rfl, Nat.le_refl _, fun _ _ => rfl⟩ (fun q hq => by have h7 : w.heap.size + 2 ≤ bt := HBT.out; have h8 := HBTL.out; have h9 := HBC.out.size; have h10 := h2.size; show w.heap.size + 2 ≤ q; omega) (by rw [List.length_take]; have := H1000.out; omega)
           simp only [List.length_drop] at hh
           exact hh)
          have hb8 := HBB.out
          have hbt8 := HBTL.out
          have HSG := Aside0.mk (show ∀ w', wc.grownBy w' (some bt) → w'.cell? ⟨b8, 0, none⟩ = some (.slice (some xa) x.1.length xd) ∧ w'.cell? ⟨b8, 1, none⟩ = some (.int .i64 (x.2 : Int)) ∧ w'.cell? ⟨b9, 0, none⟩ = some (.slice (some ya) y.1.length yd) ∧ w'.cell? ⟨b9, 1, none⟩ = some (.int .i64 (y.2 : Int)) from fun w' h' => ⟨h'.cell hc80 (by simp; omega), h'.cell hc81 (by simp; omega), h'.cell hc90 (by simp; omega), h'.cell hc91 (by simp; omega)⟩)
          have e1 : (rd x.1 0 != rd y.1 0) = false := by simpa using hne
          have e2 : (rd x.1 0 == rd y.1 0) = true := by simpa using hne
          rw [hne] at hxh d1 e1 e2
          clear h HH hxv hyv hlt hne hrx hry hPX hPY hXT hYT hj0' hjs hb8 hbt8
          go_wp2
          go_quiet (fail)
          go_wp2
          go_region_held3 (fun w' => w'.cell? ⟨b8, 0, none⟩ = some (.slice (some xa) x.1.length xd) ∧ w'.cell? ⟨b8, 1, none⟩ = some (.int .i64 (x.2 : Int)) ∧ w'.cell? ⟨b9, 0, none⟩ = some (.slice (some ya) y.1.length yd) ∧ w'.cell? ⟨b9, 1, none⟩ = some (.int .i64 (y.2 : Int)))
           (first | exact HSG.out _ hgx | (refine HSG.out _ (grown_of_below ?_ _); (repeat (first | exact Below.refl _ _ | apply below_drew1 | apply pw_below_drewN)); done))
           (first | (go_at_call 73; (with_reducible refine (HPAIR.out _ ?hb).mono ?_); (case hb => repeat (first | exact Below.refl _ _ | apply below_drew1 | apply pw_below_drewN)); rintro e w6 ⟨v6, rfl, hT6, hB6, hG6⟩; have hgx := gtrans (show wc.grownBy _ (some bt) from grown_of_below (by repeat (first | exact Below.refl _ _ | apply below_drew1 | apply pw_below_drewN)) _) hG6 (.inl (by simp [Value.ownBlock])); have hb6 := Below.trans (belowB_of (show Below wc.heap.size wc _ from by repeat (first | exact Below.refl _ _ | apply below_drew1 | apply pw_below_drewN)) HSZC.out) hB6))
          have HT6 := Aside0.mk hT6
          have HB6 := Aside0.mk hb6
          clear hT6 hB6 hG6 hgx hb6
          go_wp2
          go_step3
          refine And.intro rfl ?_
          go_step
          go_roundg k1
          case measure => have := HK.out; omega
          case rel => exact ⟨τ, _, ⟨by have := HK.out; omega⟩, H', ⟨HRC.out.belowB HB6.out HGLT.out⟩, HT6, ⟨keep_belowB HKC.out HB6.out (Nat.le_refl _)⟩, ⟨below_weaken HBC0.out HWLE.out HB6.out⟩⟩
end Go.Proofs.YteffiodbflmfkaaDoor.PP
namespace Go.Proofs.YteffiodbflmfkaaDoor.PP
open Go Go.RowKit Go.Proofs.YteffiodbflmfkaaDoorW.PrintWords Go.Proofs.YteffiodbflmfkaaDoorW.PrintLast Go.Proofs.YteffiodbflmfkaaDoorW.PrintMore Go.Proofs.YteffiodbflmfkaaDoor
set_option linter.unusedVariables false
set_option linter.unusedSimpArgs false
end Go.Proofs.YteffiodbflmfkaaDoor.PP
namespace Go.Proofs.YteffiodbflmfkaaDoor.PP
open Go Go.RowKit Go.Proofs.YteffiodbflmfkaaDoorW.PrintWords Go.Proofs.YteffiodbflmfkaaDoorW.PrintLast Go.Proofs.YteffiodbflmfkaaDoorW.PrintMore Go.Proofs.YteffiodbflmfkaaDoor
set_option linter.unusedVariables false
set_option linter.unusedSimpArgs false
theorem row_res (l : List S59) (a : List Int) : ∃ k n e, term_Row.f k l a = some (n, e) ∧ ((∃ m : Nat, Row l m a ∧ n = (m : Int) ∧ e = 0) ∨ (¬ IsRow l a ∧ n = 0 ∧ e = 200)) := by
 by_cases h : IsRow l a
 ·obtain ⟨m, hm⟩ := h
  obtain ⟨o, ho, hev⟩ := begins_row hm
  obtain ⟨k, hk⟩ := hev.rounds
  refine ⟨k, (m : Int), 0, ?_, .inl ⟨m, hm, rfl, rfl⟩⟩
  unfold term_Row.f
  rw [hk]
  simp [ho]
 ·obtain ⟨k, hk⟩ := (begins_no h).rounds
  refine ⟨k, 0, 200, ?_, .inr ⟨h, rfl, rfl⟩⟩
  unfold term_Row.f
  rw [hk]
  simp
def zer : List Value := [.slice none 0 0, .int .i64 0]
noncomputable def runNil (sv : Value) : Array Value := Tryd.zeroCells90.setIfInBounds 0 sv
theorem runNil_eq (sv : Value) : runNil sv = (sv :: (List.replicate 48 zer).flatten).toArray := by rfl
theorem zer_at : ∀ (n v : Nat), v < n → (List.replicate n zer).flatten[v * 2]? = some (.slice none 0 0) ∧ (List.replicate n zer).flatten[v * 2 + 1]? = some (.int .i64 0) := by
 intro n
 induction n with
 | zero => intro v hv; omega
 | succ n ih =>
  intro v hv
  rw [List.replicate_succ, List.flatten_cons]
  cases v with
  | zero => exact ⟨rfl, rfl⟩
  | succ v =>
   obtain ⟨h1, h2⟩ := ih v (by omega)
   have e1 : (v + 1) * 2 = v * 2 + 2 := by omega
   rw [e1]
   exact ⟨h1, h2⟩
theorem run_new (w0 W : World) (sv : Value) : RunAt w0 (W.alloc (.cells (Tryd.zeroCells90.setIfInBounds 0 sv) 90)) W.heap.size sv st0 := by
 show RunAt w0 (W.alloc (.cells (runNil sv) 90)) W.heap.size sv st0
 refine ⟨List.length_replicate, runNil sv, heap_alloc_new _ _, rfl, rfl, fun v hv => ⟨none, 0, ?_, ?_, ?_⟩⟩
 ·rw [ofS_st0, runNil_eq, List.getElem?_toArray, show 1 + v * 2 = v * 2 + 1 by omega, List.getElem?_cons_succ]
  exact (zer_at 48 v hv).1
 ·rw [ofS_st0, runNil_eq, List.getElem?_toArray, show 1 + v * 2 + 1 = (v * 2 + 1) + 1 by omega, List.getElem?_cons_succ]
  exact (zer_at 48 v hv).2
 ·rw [ofS_st0]
  exact ⟨Nat.le_refl _, ⟨rfl, by decide, fun h => absurd h (Nat.lt_irrefl 0)⟩, ⟨by decide, fun c hc => (by cases hc), by decide⟩, fun _ => ⟨rfl, rfl⟩, fun h => absurd rfl h⟩
theorem row_pcr {l : List S59} {w : World} {A : Option Addr} {c n : Nat} {a : List Int} (h : Row l n a) (hC : Kd.C (Kd.int .i64) w A a.length a) (hc : a.length ≤ c) : PcR w (a, 0) A c :=
 ⟨hc, hC, ⟨h.2.1, fun z hz => by
  obtain ⟨m, hm⟩ := isN_mem h.2.2 z hz
  rcases Int.lt_or_le z 0 with h0 | h0
  ·exact (arS_neg h0 hm).2
  ·show -24 ≤ z; omega, Nat.zero_le _⟩⟩
end Go.Proofs.YteffiodbflmfkaaDoor.PP
