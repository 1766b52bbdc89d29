/- The document's unification: its store, Parts, walk, inside: their walks. The document's unification: its inside and pair1: their walks. The document's unification: its all and pair: their walks. The document's unification: its pair: its walk. The document's unification: its full: its walk; what its rounds come to for two rows. The document's Together: its walk. -/
import Derived.Test.YteffiodbflmfkaaDoorUniPr
import Derived.Test.YteffiodbflmfkaaDoorRefTerms
import Derived.Test.YteffiodbflmfkaaDoorPPx0
import Derived.Test.YteffiodbflmfkaaDoorPPx12
import Derived.Test.YteffiodbflmfkaaDoorPPx14
namespace Go.Proofs.YteffiodbflmfkaaDoor.PP
open Go Go.RowKit Go.Proofs.YteffiodbflmfkaaDoorW.PrintWords Go.Proofs.YteffiodbflmfkaaDoorW.PrintLast Go.Proofs.YteffiodbflmfkaaDoorW.PrintMore Go.Proofs.YteffiodbflmfkaaDoor
set_option linter.unusedVariables false
set_option linter.unusedSimpArgs false
theorem behindU_loop {l : List S59} (hs : SignOk l) (r : List Int) (hr : r.length ≤ 60) : ∀ (d i n : Nat) (s : List Int), r.length - i ≤ d → i ≤ r.length → n + 3 * d ≤ 1000 → skipN (arU l) (r.drop i) n = some s → Ev (fun k => quaereref1_behind.l0 k l r (n : Int) (i : Int)) ((r.length : Int) - s.length) := by
 intro d
 induction d with
 | zero =>
  intro i n s hd hi hb h
  rw [List.drop_eq_nil_of_le (by omega)] at h
  cases n with
  | zero =>
   rw [skipN_zero] at h
   obtain rfl := Option.some.inj h
   refine Ev.step (f := fun _ => some (i : Int)) (fun k => ?_) (Ev.some_ (by simp; omega))
   simp only [quaereref1_behind.l0]
   rw [if_neg (by omega)]
  | succ n => rw [skipN_nil] at h; cases h
 | succ d ih =>
  intro i n s hd hi hb h
  cases n with
  | zero =>
   rw [skipN_zero] at h
   obtain rfl := Option.some.inj h
   refine Ev.step (f := fun _ => some (i : Int)) (fun k => ?_) (Ev.some_ (by simp; omega))
   simp only [quaereref1_behind.l0]
   rw [if_neg (by omega)]
  | succ n =>
   by_cases hlt : i < r.length
   ·rw [drop_cons r i hlt, skipN_cons] at h
    cases e : arU l (rd r (i : Int)) with
    | none => rw [e] at h; cases h
    | some m =>
     rw [e] at h
     have hm : m ≤ 3 ∧ (rd r (i : Int) < 0 → m = 0) ∧ (¬ rd r (i : Int) < 0 → arS l (rd r (i : Int)) = some m) := by
      unfold arU at e
      split at e
      ·split at e
       ·have := Option.some.inj e; exact ⟨by omega, fun _ => this.symm, fun h => absurd (by assumption) h⟩
       ·cases e
      ·rename_i hc
       exact ⟨arS_le hs e, fun h => absurd h hc, fun _ => e⟩
     have ih' := ih (i + 1) (n + m) s (by omega) (by omega) (by omega) h
     refine Ev.step (f := fun k => quaereref1_behind.l0 k l r ((n + m : Nat) : Int) ((i + 1 : Nat) : Int)) (fun k => ?_) ih'
     simp only [quaereref1_behind.l0]
     rw [if_pos (by omega), if_pos (by omega), if_pos (by omega)]
     by_cases hc : rd r (i : Int) ≥ 0
     ·obtain ⟨h1, h2, h3⟩ := arS_pos hc (hm.2.2 (by omega))
      have e2 : rd_T59 l (rd r (i : Int)) = l.getD (rd r (i : Int)).toNat z59 := rfl
      have har := sign_arity hs (rd r (i : Int)).toNat (by omega)
      rw [if_pos hc, if_pos hc, if_pos h1, e2, wrap_nat i (by omega)]
      congr 1
      unfold wrap64
      omega
     ·obtain rfl := hm.2.1 (by omega)
      rw [if_neg hc, wrap_nat i (by omega)]
      congr 1
      unfold wrap64
      omega
   ·rw [List.drop_eq_nil_of_le (by omega), skipN_nil] at h
    cases h
set_option maxHeartbeats 1000000 in
set_option maxRecDepth 100000 in
theorem partsU_calls (A0 : Option Addr) (c0 : Nat) (l : List S59) (A1 : Option Addr) (c1 : Nat) (r : List Int) (m : Nat) (w0 w : World) (hB : Below w0.heap.size w0 w) (hs : SignOk l) (hr48 : r.length ≤ 60) (hn : isN (arU l) m r)
  (hr0 : Kd.C k59 w A0 l.length l) (hc0 : l.length ≤ c0) (hr1 : Kd.C (Kd.int .i64) w0 A1 r.length r) (hc1 : r.length ≤ c1) :
  Calls Tryd.prog 44 #[.slice A0 l.length c0, .slice A1 r.length c1] w fun e w' =>
   ∃ v, e = .returned v ∧ (kRW w0).R 23 w' w.heap.size (fun _ => True) v (pcsU l r) ∧ Below w.heap.size w w' := by
 have HS := Aside0.mk hs
 have HB := Aside0.mk hB
 have HR0 := Aside0.mk hr0
 have HR1 := Aside0.mk hr1
 have HC0 := Aside0.mk hc0
 have HC1 := Aside0.mk hc1
 have HL := Aside0.mk hr48
 have HN0 := Aside0.mk (show ∃ m, isN (arU l) m (r.drop 0) from ⟨m, hn⟩)
 clear hs hB hr0 hr1 hc0 hc1 hr48 hn
 obtain ⟨R, hR⟩ : ∃ R, pcsU l r = R := ⟨_, rfl⟩
 have HR := Aside0.mk hR
 rw [hR]
 clear hR
 go_enter Tryd.func44, Tryd.ntmps44
 go_wp2
 go_loopg [5, 6] (r.length + 1) (fun kq v5 v6 w' => ∃ (i : Nat) (out : List (List Int)), v6 = .int .i64 (i : Int) ∧ Aside0 (i ≤ r.length ∧ kq + i = r.length + 1) ∧ Aside0 (out ++ pcsU l (r.drop i) = R) ∧ Aside0 (out.length ≤ i) ∧ Aside0 (∃ m, isN (arU l) m (r.drop i)) ∧ Aside0 ((kRW w0).R 23 w' w.heap.size (fun _ => True) v5 out) ∧ Aside0 (Below w.heap.size w w'))
 case atStart => exact ⟨0, [], rfl, ⟨by omega, by omega⟩, ⟨by simpa using HR.out⟩, ⟨Nat.le_refl _⟩, HN0, ⟨Kd.R_nil _ _ _ _ _⟩, ⟨Below.refl _ _⟩⟩
 case round =>
  clear HR HN0
  obtain ⟨i, out, rfl, HI, HR, HO, HN, HT, HBW⟩ := hrel
  have hl := HL.out
  by_cases hi : i < r.length
  ·have d1 : decide ((i : Int) < (r.length : Int)) = true := by simp; omega
   have d2 : decide (i < r.length) = true := by simpa using hi
   obtain ⟨m, hm⟩ := HN.out
   obtain ⟨m, rfl⟩ : ∃ q, m = 1 + q := ⟨m - 1, by
    cases m with
    | zero =>
     have := congrArg List.length (isN_zero hm)
     rw [List.length_drop, List.length_nil] at this
     omega
    | succ m => omega⟩
   obtain ⟨t, s, e, ht, hsn⟩ := isN_split hm
   have hsk : skipN (arU l) (r.drop i) 1 = some s := by rw [e]; exact isN_skip ht
   have htl := isN_pos ht
   have hlen : r.length - i = t.length + s.length := by
    have : (r.drop i).length = t.length + s.length := by rw [e]; simp
    rwa [List.length_drop] at this
   obtain ⟨k, hk⟩ := (behindU_loop HS.out r hl r.length i 1 s (by omega) (by omega) (by omega) hsk).rounds
   obtain ⟨q, hq⟩ : ∃ q, q = i + t.length := ⟨_, rfl⟩
   have hqv : (r.length : Int) - (s.length : Int) = (q : Int) := by omega
   rw [hqv] at hk
   have hk : quaereref1_behind.f k l r (i : Int) = some (q : Int) := hk
   have hdr : r.drop q = s := by rw [hq, ← List.drop_drop, e]; simp
   have htk : (r.take q).drop i = t := by
    rw [hq, List.drop_take, e, show i + t.length - i = t.length by omega]
    simp
   have hR2 : out ++ [t] ++ pcsU l (r.drop q) = R := by
    rw [hdr, ← HR.out, e, pcsU_cons ht]
    simp
   have HN2 := Aside0.mk (show ∃ m, isN (arU l) m (r.drop q) from ⟨m, by rw [hdr]; exact hsn⟩)
   obtain ⟨i0, hi0', _, hsz, _⟩ := info_parts info3
   have hrow := Kd.C_mid (lo := i) (hi := q) (c := c1) HR1.out (by omega) (by omega) HC1.out
   have hql : q - i = t.length := by omega
   obtain ⟨ad, rfl⟩ : ∃ ad, A1 = some ad := by
    obtain ⟨ad, h1, _⟩ := Kd.at_int HR1.out (i : Int) (by omega) (by omega)
    exact ⟨ad, h1⟩
   have hcut := cut_mid (P := Tryd.prog) 23 3 .i64 .i64 Tryd.underlying23 hi0' 1 hsz (some ad) r.length c1 (i : Int) (q : Int) (by omega) (by omega) (by omega) HC1.out
   obtain ⟨TA, hTA⟩ : ∃ TA, TA = (if c1 = i then some ad else (some ad : Option Addr).map (·.add (i * 1))) := ⟨_, rfl⟩
   obtain ⟨tc, htc⟩ : ∃ tc, tc = c1 - i := ⟨_, rfl⟩
   simp only [Int.toNat_natCast] at hcut
   rw [← hTA, ← htc, hql] at hcut
   rw [htk] at hrow
   have hrow' : Kd.C (Kd.int .i64) w0 TA t.length t := by rw [hTA]; exact hrow
   have htlc : t.length ≤ tc := by have := HC1.out; omega
   have htA : t ≠ [] → TA ≠ none := by intro _; rw [hTA]; split <;> simp
   have HK := Aside0.mk hk
   have HR2 := Aside0.mk hR2
   have HROW := Aside0.mk hrow'
   have HTC := Aside0.mk htlc
   have HTA := Aside0.mk htA
   have HQ := Aside0.mk (show i < q ∧ q ≤ r.length by omega)
   have hq0 : (i : Int) ≤ (q : Int) := by omega
   have hq1 : (q : Int) ≤ (r.length : Int) := by omega
   clear hk hR2 hrow hrow' htlc htA hTA htc hq hqv hdr htk hql hi0' hsz e HR hi ht htl hm hsn hsk hlen HN
   go_wp2_with fail
   refine (quaereref1_behind.calls k _ _ l _ _ r (i : Int) (q : Int) _ (Kd.C_below HR0.out HBW.out) HC0.out (Kd.C_below HR1.out (below_weaken HB.out HB.out.size HBW.out)) HC1.out HK.out).mono ?_
   rintro e w1 ⟨rfl, ⟨nd, rfl⟩⟩
   go_wp2_with (first | ((with_reducible refine gate_builtin (b := .append) (xs := #[.tmp 16, .tmp 21]) rfl ?_); at_builtin; refine Kd.R_append (kRW w0) (w0 := w) w.heap.size rfl (.tmp 16) (.tmp 21) 25 23 (.slice none 0 0) 24 rfl Tryd.underlying25 infoRow rfl Nat.zero_lt_one (by omega) u5 out t [.slice TA t.length tc] (fun _ => True) (fun _ => False) rfl rfl ?hp (fun _ h => h.elim) (fun _ _ => trivial) ?hO ?hB ?hs ?hl ?_; (case hp => exact ⟨TA, tc, rfl, HTC.out, HROW.out, HTA.out⟩); (case hO => exact Kd.R_drewN HT.out _); (case hB => exact pw_below_drewN HBW.out _); (case hs => exact below_size (pw_below_drewN HBW.out _)); (case hl => have := HO.out; have := HQ.out; have := HL.out; omega); intro v5 w5 ho hb hg hat; have n0_ := Aside0.mk hb; have n1_ := Aside0.mk ho; clear ho hb hg hat))
   go_roundg (r.length + 1 - q)
   case measure => have := HI.out; have := HQ.out; omega
   case rel => exact ⟨q, out ++ [t], rfl, ⟨HQ.out.2, by have := HQ.out; omega⟩, HR2, ⟨by have := HO.out; have := HQ.out; simp only [List.length_append, List.length_singleton]; omega⟩, HN2, n1_, n0_⟩
  ·have d1 : decide ((i : Int) < (r.length : Int)) = false := by simp; omega
   have d2 : decide (i < r.length) = false := by simpa using hi
   have hR2 : out = R := by
    rw [← HR.out, List.drop_eq_nil_of_le (by omega)]
    simp [pcsU, parts]
   subst hR2
   clear HR
   go_wp2
   go_ret
   exact ⟨_, rfl, HT.out, HBW.out⟩
/-! the store -/
structure RwB (t : List Int) : Prop where
 len : t.length ≤ 48
 lo : ∀ c ∈ t, -48 ≤ c
structure RwM (w0 : World) (t : List Int) (A : Option Addr) (c : Nat) : Prop where
 room : t.length ≤ c
 row : Kd.C (Kd.int .i64) w0 A t.length t
 ok : RwB t
 some_ : t ≠ [] → A ≠ none
def SAt (w0 W : World) (g : Nat) (σ : List (List Int)) : Prop :=
 σ.length = 48 ∧ ∃ cells : Array Value, W.heap[g]? = some (.cells cells 79 (0, 0)) ∧ cells.size = 48 ∧ ∀ v, v < 48 → ∃ A c, cells[v]? = some (.slice A (σ.getD v []).length c) ∧ RwM w0 (σ.getD v []) A c
theorem SAt.below {w0 W W1 : World} {g : Nat} {σ : List (List Int)} (h : SAt w0 W g σ) (hb : Below W.heap.size W W1) : SAt w0 W1 g σ := by
 obtain ⟨h1, cells, h2, h3⟩ := h
 exact ⟨h1, cells, (hb.block g (blk_lt h2)).trans h2, h3⟩
theorem SAt.at_ {w0 W : World} {g : Nat} {σ : List (List Int)} (h : SAt w0 W g σ) {v : Nat} (hv : v < 48) : ∃ A c, W.cell? ⟨g, v, none⟩ = some (.slice A (σ.getD v []).length c) ∧ RwM w0 (σ.getD v []) A c := by
 obtain ⟨h1, cells, h2, h3, h4⟩ := h
 obtain ⟨A, c, h5, h6⟩ := h4 v hv
 exact ⟨A, c, (blk_cell h2 v).trans h5, h6⟩
theorem RwM.cell {w0 W : World} {p : List Int} {A : Option Addr} {c : Nat} (h : RwM w0 p A c) (hb : Below w0.heap.size w0 W) (hne : p ≠ []) : ∃ ad, A = some ad ∧ W.cell? ad = some (.int .i64 (rd p 0)) ∧ 0 < p.length ∧ -48 ≤ rd p 0 := by
 have hp : 0 < p.length := List.length_pos_iff.2 hne
 obtain ⟨ad, h1, h2⟩ := Kd.at_int (Kd.C_below h.row hb) 0 (Int.le_refl _) (by omega)
 refine ⟨ad, h1, ?_, hp, ?_⟩
 ·have e0 : ad.add 0 = ad := by simp [Addr.add]
  rw [← e0]
  exact h2
 ·cases p with
  | nil => exact absurd rfl hne
  | cons x r => exact h.ok.lo x (by simp)
set_option maxHeartbeats 1000000 in
set_option maxRecDepth 100000 in
theorem walk_calls (g : Nat) (σ : List (List Int)) (k : Nat) (t u : List Int) (A : Option Addr) (c : Nat) (w0 w : World) (hB : Below w0.heap.size w0 w) (hR : SAt w0 w g σ) (hp : RwM w0 t A c) (h : walkF σ k t = some u) :
  Calls Tryd.prog 76 #[.pointer (some ⟨g, 0, none⟩), .slice A t.length c] w fun e w' => ∃ A' c', e = .returned (.slice A' u.length c') ∧ RwM w0 u A' c' ∧ Below w.heap.size w w' := by
 have hus := Tryd.underlying79
 have HB := Aside0.mk hB
 have HR := Aside0.mk hR
 have HP := Aside0.mk hp
 have H := Aside0.mk h
 clear hB hR hp h
 go_enter Tryd.func76, Tryd.ntmps76
 go_wp2
 go_loopg [1] k (fun kq v1 w' => ∃ (t : List Int) (A : Option Addr) (c : Nat), v1 = .slice A t.length c ∧ Aside0 (kq ≤ k) ∧ Aside0 (walkF σ kq t = some u) ∧ Aside0 (RwM w0 t A c) ∧ Aside0 (Below w.heap.size w w'))
 case atStart => exact ⟨t, A, c, rfl, ⟨Nat.le_refl _⟩, H, HP, ⟨Below.refl _ _⟩⟩
 case round =>
  clear H HP
  obtain ⟨t, A, c, rfl, HK, H, HP, HBW⟩ := hrel
  cases gk with
  | zero => exact absurd H.out (by simp [walkF])
  | succ k1 =>
   have h := H.out
   clear H
   simp only [walkF] at h
   have hbase := below_weaken HB.out HB.out.size HBW.out
   by_cases h1 : t.length = 1
   ·have d1 : ((t.length : Int) == 1) = true := by simp; omega
    have hne : t ≠ [] := by intro e; rw [e] at h1; simp at h1
    obtain ⟨ad, rfl, hcell, _, hlo⟩ := HP.out.cell hbase hne
    have e1 : (0 : Int) < (t.length : Int) := by omega
    by_cases h2 : rd t 0 < 0
    ·have d2 : decide (rd t 0 < 0) = true := decide_eq_true h2
     obtain ⟨n, hn⟩ : ∃ n : Nat, -1 - rd t 0 = (n : Int) := ⟨(-1 - rd t 0).toNat, by omega⟩
     have hn48 : n < 48 := by omega
     have hrw : refw σ (rd t 0) = σ.getD n [] := by unfold refw; rw [hn]; simp
     have hn0 : (0 : Int) ≤ (n : Int) := by omega
     have hn1 : (n : Int) < 48 := by omega
     obtain ⟨B, d, hx, hxm⟩ := (HR.out.below HBW.out).at_ hn48
     rw [hrw] at h
     have HXM := Aside0.mk hxm
     by_cases h3 : σ.getD n [] = []
     ·rw [if_neg (fun hh => hh.2.2 h3)] at h
      obtain rfl := Option.some.inj h
      have hl0 : (σ.getD n []).length = 0 := by rw [h3]; rfl
      rw [hl0] at hx
      clear h hrw hxm hbase h3 hl0 h1
      go_wp2
      go_quiet (fail)
      go_wp2
      go_ret
      exact ⟨_, _, rfl, HP.out, by repeat (first | (with_reducible first | exact HBW.out | apply below_alloc | apply pw_below_drewN | apply below_drew1) | exact HBW.out)⟩
     ·rw [if_pos ⟨h1, h2, h3⟩] at h
      have H' := Aside0.mk h
      have hlp : 0 < (σ.getD n []).length := List.length_pos_iff.2 h3
      have d3 : decide ((0 : Int) < ((σ.getD n []).length : Int)) = true := by rw [decide_eq_true_eq]; omega
      have d4 : decide (0 < (σ.getD n []).length) = true := by rw [decide_eq_true_eq]; exact hlp
      clear h hrw hxm hbase h3 h1
      go_wp2
      go_quiet (fail)
      go_wp2
      go_quiet (fail)
      go_wp2
      go_roundg k1
      case measure => have := HK.out; omega
      case rel => exact ⟨σ.getD n [], B, d, rfl, ⟨by have := HK.out; omega⟩, H', HXM, ⟨by repeat (first | (with_reducible first | exact HBW.out | apply below_alloc | apply pw_below_drewN | apply below_drew1) | exact HBW.out)⟩⟩
    ·have d2 : decide (rd t 0 < 0) = false := decide_eq_false h2
     rw [if_neg (fun hh => h2 hh.2.1)] at h
     obtain rfl := Option.some.inj h
     clear h hbase h1
     go_wp2
     go_quiet (fail)
     go_wp2
     go_ret
     exact ⟨_, _, rfl, HP.out, by repeat (first | (with_reducible first | exact HBW.out | apply below_alloc | apply pw_below_drewN | apply below_drew1) | exact HBW.out)⟩
   ·have d1 : ((t.length : Int) == 1) = false := by simp; omega
    rw [if_neg (fun hh => h1 hh.1)] at h
    obtain rfl := Option.some.inj h
    clear h hbase
    go_wp2
    go_quiet (fail)
    go_wp2
    go_ret
    exact ⟨_, _, rfl, HP.out, by repeat (first | (with_reducible first | exact HBW.out | apply below_alloc | apply pw_below_drewN | apply below_drew1) | exact HBW.out)⟩
end Go.Proofs.YteffiodbflmfkaaDoor.PP
namespace Go.Proofs.YteffiodbflmfkaaDoor.PP
open Go Go.RowKit Go.Proofs.YteffiodbflmfkaaDoorW.PrintWords Go.Proofs.YteffiodbflmfkaaDoorW.PrintLast Go.Proofs.YteffiodbflmfkaaDoorW.PrintMore Go.Proofs.YteffiodbflmfkaaDoor
set_option linter.unusedVariables false
set_option linter.unusedSimpArgs false
set_option maxHeartbeats 1000000 in
set_option maxRecDepth 100000 in
theorem inside_calls (g : Nat) (σ : List (List Int)) (v : Nat) (w0 : World) : ∀ (k : Nat) (t : List Int) (A : Option Addr) (c : Nat) (b : Bool) (w : World), Below w0.heap.size w0 w → SAt w0 w g σ → RwM w0 t A c → insideF σ v k t = some b →
  Calls Tryd.prog 82 #[.pointer (some ⟨g, 0, none⟩), .int .i64 (v : Int), .slice A t.length c] w fun e w' => e = .returned (.bool b) ∧ Below w.heap.size w w' := by
 intro k
 induction k with
 | zero => intro t A c b w _ _ _ h; exact absurd h (by simp [insideF])
 | succ k1 ih =>
 intro t A c b w hB hR hp h
 have IH := Aside0.mk ih
 clear ih
 have hus := Tryd.underlying79
 simp only [insideF] at h
 have HB := Aside0.mk hB
 have HR := Aside0.mk hR
 have HP := Aside0.mk hp
 have H := Aside0.mk h
 clear hB hR hp h
 go_enter Tryd.func82, Tryd.ntmps82
 go_wp2
 go_loopg [7] (t.length + 1) (fun kq v7 w' => ∃ (i : Nat), v7 = .int .i64 (i : Int) ∧ Aside0 (i ≤ t.length ∧ kq + i = t.length + 1) ∧ Aside0 (insideL (insideF σ v k1) σ v (t.drop i) = some b) ∧ Aside0 (Below w.heap.size w w'))
 case atStart => exact ⟨0, rfl, ⟨by omega, by omega⟩, H, ⟨Below.refl _ _⟩⟩
 case round =>
  clear H
  obtain ⟨i, rfl, HI, H, HBW⟩ := hrel
  have hbase := below_weaken HB.out HB.out.size HBW.out
  have hlen := HP.out.ok.len
  by_cases hi : i < t.length
  ·have hi0 : (0 : Int) ≤ (i : Int) := by omega
   have hi1 : (i : Int) < (t.length : Int) := by omega
   obtain ⟨ad, rfl, hcell⟩ := Kd.at_int (Kd.C_below HP.out.row hbase) (i : Int) hi0 hi1
   obtain ⟨cc, hcc⟩ : ∃ cc, cc = rd t (i : Int) := ⟨_, rfl⟩
   rw [← hcc, Int.toNat_natCast] at hcell
   have h := H.out
   rw [drop_cons t i hi, ← hcc] at h
   simp only [insideL] at h
   have hlo : -48 ≤ cc := HP.out.ok.lo cc (by rw [hcc, rd_nat t i hi]; exact List.getElem_mem _)
   have HW1 := Aside0.mk (wrap_nat i (by omega))
   clear hcc hbase H hlen hi
   by_cases hc : 0 ≤ cc
   ·have d1 : decide ((0 : Int) ≤ cc) = true := decide_eq_true hc
    rw [if_pos hc] at h
    have H' := Aside0.mk h
    clear h
    go_wp2
    go_roundg (gk - 1)
    case measure => have := HI.out; omega
    case rel => exact ⟨i + 1, by first | exact congrArg (Value.int .i64) HW1.out | rfl | go_num | (simp; done), ⟨by have := HI.out; omega, by have := HI.out; omega⟩, H', HBW⟩
   ·have d1 : decide ((0 : Int) ≤ cc) = false := decide_eq_false hc
    rw [if_neg hc] at h
    obtain ⟨n, hn⟩ : ∃ n : Nat, -1 - cc = (n : Int) := ⟨(-1 - cc).toNat, by omega⟩
    have hn48 : n < 48 := by omega
    have hnt : (-1 - cc).toNat = n := by omega
    have hrw : refw σ cc = σ.getD n [] := by unfold refw; rw [hnt]
    rw [hnt, hrw] at h
    have hn0 : (0 : Int) ≤ (n : Int) := by omega
    have hn1 : (n : Int) < 48 := by omega
    obtain ⟨B, d, hx, hxm⟩ := (HR.out.below HBW.out).at_ hn48
    have HXM := Aside0.mk hxm
    clear hrw hnt hxm
    by_cases hnv : n = v
    ·rw [if_pos hnv] at h
     obtain rfl := Option.some.inj h
     have e1 : ((n : Int) == (v : Int)) = true := by simp [hnv]
     have e2 : (n == v) = true := by simp [hnv]
     clear h hnv
     go_wp2
     go_ret
     exact ⟨rfl, by repeat (first | (with_reducible first | exact HBW.out | apply below_alloc | apply pw_below_drewN | apply below_drew1) | exact HBW.out)⟩
    ·rw [if_neg hnv] at h
     have e1 : ((n : Int) == (v : Int)) = false := by simp; omega
     have e2 : (n == v) = false := by simpa using hnv
     by_cases hb : σ.getD n [] = []
     ·rw [if_neg (fun hh => hh hb)] at h
      have H' := Aside0.mk h
      have hl0 : (σ.getD n []).length = 0 := by rw [hb]; rfl
      rw [hl0] at hx
      clear h hb hl0 hnv
      go_wp2
      go_roundg (gk - 1)
      case measure => have := HI.out; omega
      case rel => exact ⟨i + 1, by first | exact congrArg (Value.int .i64) HW1.out | rfl | go_num | (simp; done), ⟨by have := HI.out; omega, by have := HI.out; omega⟩, H', HBW⟩
     ·rw [if_pos hb] at h
      obtain ⟨b1, hb1, h⟩ := Option.bind_eq_some_iff.1 h
      have hlp : 0 < (σ.getD n []).length := List.length_pos_iff.2 hb
      have d3 : decide ((0 : Int) < ((σ.getD n []).length : Int)) = true := by rw [decide_eq_true_eq]; omega
      have d4 : decide (0 < (σ.getD n []).length) = true := by rw [decide_eq_true_eq]; exact hlp
      have HB1 := Aside0.mk hb1
      have HN := Aside0.mk h
      clear h hb hb1 hnv
      go_wp2_with fail
      refine (IH.out (σ.getD n []) B d b1 _ (below_weaken HB.out HB.out.size HBW.out) (HR.out.below HBW.out) HXM.out HB1.out).mono ?_
      rintro e w3 ⟨rfl, hb3⟩
      have HB3 := Aside0.mk (below_step HBW.out hb3)
      have h := HN.out
      cases b1 with
      | true =>
       rw [if_pos rfl] at h
       obtain rfl := Option.some.inj h
       clear h HN hb3
       go_wp2
       go_ret
       exact ⟨rfl, HB3.out⟩
      | false =>
       rw [if_neg (by simp)] at h
       have H' := Aside0.mk h
       clear h HN hb3
       go_wp2
       go_roundg (gk - 1)
       case measure => have := HI.out; omega
       case rel => exact ⟨i + 1, by first | exact congrArg (Value.int .i64) HW1.out | rfl | go_num | (simp; done), ⟨by have := HI.out; omega, by have := HI.out; omega⟩, H', HB3⟩
  ·have hil : i = t.length := by have := HI.out; omega
   have h := H.out
   rw [hil, List.drop_length] at h
   simp only [insideL] at h
   obtain rfl := Option.some.inj h
   have d1 : decide ((i : Int) < (t.length : Int)) = false := by simp; omega
   have d2 : decide (i < t.length) = false := by simpa using hi
   clear h hil hi hbase hlen
   go_wp2
   go_ret
   exact ⟨rfl, HBW.out⟩
theorem sat_set {w0 W : World} {g n : Nat} {σ : List (List Int)} {cells : Array Value} {y : List Int} {A : Option Addr} {c : Nat} (hl : σ.length = 48) (hn : n < 48)
  (hh : W.heap[g]? = some (.cells (cells.setIfInBounds n (.slice A y.length c)) 79 (0, 0))) (hz : cells.size = 48)
  (hc : ∀ v, v < 48 → ∃ A c, cells[v]? = some (.slice A (σ.getD v []).length c) ∧ RwM w0 (σ.getD v []) A c) (hy : RwM w0 y A c) : SAt w0 W g (σ.set n y) := by
 refine ⟨by rw [List.length_set]; exact hl, _, hh, by simpa using hz, fun v hv => ?_⟩
 by_cases e : v = n
 ·subst e
  rw [getD_same (by omega)]
  exact ⟨A, c, by rw [Array.getElem?_setIfInBounds, if_pos rfl, if_pos (by omega)], hy⟩
 ·obtain ⟨B, d, h1, h2⟩ := hc v hv
  rw [getD_other e]
  exact ⟨B, d, by rw [Array.getElem?_setIfInBounds, if_neg (by omega)]; exact h1, h2⟩
set_option maxHeartbeats 1000000 in
set_option maxRecDepth 100000 in
theorem pair1_calls (g : Nat) (σ : List (List Int)) (k : Nat) (x t : List Int) (both : Bool) (A A' : Option Addr) (c c' : Nat) (R : Option (List (List Int))) (w0 w : World) (hB : Below w0.heap.size w0 w) (hg : w0.heap.size ≤ g) (hR : SAt w0 w g σ)
  (hx : RwM w0 x A c) (hxn : x ≠ []) (hxv : rd x 0 < 0) (ht : RwM w0 t A' c') (htn : t ≠ []) (hbt : both = true → rd t 0 < 0) (h : pair1F k σ x t both = some R) :
  Calls Tryd.prog 77 #[.pointer (some ⟨g, 0, none⟩), .slice A x.length c, .slice A' t.length c', .bool both] w fun e w' =>
   e = .returned (.bool R.isSome) ∧ (∀ σ', R = some σ' → SAt w0 w' g σ') ∧ KeepBut w w' g none ∧ Below w0.heap.size w0 w' := by
 have hus := Tryd.underlying79
 obtain ⟨xa, rfl, hxh, hxl, hxlo⟩ := hx.cell hB hxn
 obtain ⟨ta, rfl, hth, htl, htlo⟩ := ht.cell hB htn
 have hxl' : (0 : Int) < (x.length : Int) := by omega
 have htl' : (0 : Int) < (t.length : Int) := by omega
 obtain ⟨n, hn⟩ : ∃ n : Nat, -1 - rd x 0 = (n : Int) := ⟨(-1 - rd x 0).toNat, by omega⟩
 have hn48 : n < 48 := by omega
 have hnt : (-1 - rd x 0).toNat = n := by omega
 have hn0 : (0 : Int) ≤ (n : Int) := by omega
 have hn1 : (n : Int) < 48 := by omega
 simp only [pair1F] at h
 rw [hnt] at h
 have HB := Aside0.mk hB
 have HG := Aside0.mk hg
 have HR := Aside0.mk hR
 have HX := Aside0.mk hx
 have HT := Aside0.mk ht
 cases both with
 | true =>
  rw [if_pos rfl] at h
  have ht0 := hbt rfl
  obtain ⟨m, hm⟩ : ∃ m : Nat, -1 - rd t 0 = (m : Int) := ⟨(-1 - rd t 0).toNat, by omega⟩
  have hm48 : m < 48 := by omega
  have hmt : (-1 - rd t 0).toNat = m := by omega
  rw [hmt] at h
  have HE := Aside0.mk (Option.some.inj h).symm
  have hm0 : (0 : Int) ≤ (m : Int) := by omega
  have hm1 : (m : Int) < 48 := by omega
  obtain ⟨hl48, cells, hheap, hsz, hcells⟩ := hR
  obtain ⟨B, d, hp0, _⟩ := hcells m hm48
  have hr0 : w.cell? ⟨g, m, none⟩ = some (.slice B (σ.getD m []).length d) := (blk_cell hheap _).trans hp0
  have hf0 : w.frozen? ⟨g, m, none⟩ = false := blk_frozen hheap _
  have HC := Aside0.mk (And.intro hl48 (And.intro hheap (And.intro hsz hcells)))
  clear hB hg hx ht h hl48 hheap hsz hcells hp0 hnt hmt hbt ht0 hxv HR
  go_enter Tryd.func77, Tryd.ntmps77
  go_wp2
  go_region
  go_wp2
  go_ret
  obtain ⟨hl48, hheap, hsz, hcells⟩ := HC.out
  exact ⟨by rw [HE.out]; rfl, (fun σ' e => by rw [HE.out] at e; obtain rfl := Option.some.inj e; exact sat_set hl48 hm48 (blk_set hheap _ _) hsz hcells HX.out), KeepBut.set_ (KeepBut.refl _ _ _) _ _, below_drew1 (below_set HB.out HG.out)⟩
 | false =>
  rw [if_neg (by simp)] at h
  obtain ⟨b, hb, h⟩ := Option.bind_eq_some_iff.1 h
  have he := (Option.some.inj h).symm
  have HI := Aside0.mk hb
  clear hB hg hx ht h hnt hbt hxv hR hb
  go_enter Tryd.func77, Tryd.ntmps77
  go_wp2_with fail
  refine (inside_calls g σ n w0 k t (some ta) c' b _ HB.out HR.out HT.out HI.out).mono ?_
  rintro e w3 ⟨rfl, hb3⟩
  have HB3 := Aside0.mk hb3
  have HB03 := Aside0.mk (below_weaken HB.out HB.out.size hb3)
  cases b with
  | true =>
   rw [if_pos rfl] at he
   have HE := Aside0.mk he
   clear he hb3
   go_wp2
   go_ret
   exact ⟨by rw [HE.out]; rfl, (fun σ' e => by rw [HE.out] at e; cases e), KeepBut.of_below HB3.out g none, HB03.out⟩
  | false =>
   rw [if_neg (by simp)] at he
   have HE := Aside0.mk he
   obtain ⟨hl48, cells, hheap, hsz, hcells⟩ := HR.out.below hb3
   obtain ⟨B, d, hp0, _⟩ := hcells n hn48
   have hr0 : w3.cell? ⟨g, n, none⟩ = some (.slice B (σ.getD n []).length d) := (blk_cell hheap _).trans hp0
   have hf0 : w3.frozen? ⟨g, n, none⟩ = false := blk_frozen hheap _
   have HC := Aside0.mk (And.intro hl48 (And.intro hheap (And.intro hsz hcells)))
   clear he hb3 hl48 hheap hsz hcells hp0
   go_wp2
   go_ret
   obtain ⟨hl48, hheap, hsz, hcells⟩ := HC.out
   exact ⟨by rw [HE.out]; rfl, (fun σ' e => by rw [HE.out] at e; obtain rfl := Option.some.inj e; exact sat_set hl48 hn48 (blk_set hheap _ _) hsz hcells HT.out), KeepBut.set_ (KeepBut.of_below HB3.out g none) _ _, below_set HB03.out HG.out⟩
end Go.Proofs.YteffiodbflmfkaaDoor.PP
namespace Go.Proofs.YteffiodbflmfkaaDoor.PP
open Go Go.RowKit Go.Proofs.YteffiodbflmfkaaDoorW.PrintWords Go.Proofs.YteffiodbflmfkaaDoorW.PrintLast Go.Proofs.YteffiodbflmfkaaDoorW.PrintMore Go.Proofs.YteffiodbflmfkaaDoor
set_option linter.unusedVariables false
set_option linter.unusedSimpArgs false
theorem RtOk.ne {l : List S59} {t : List Int} (h : RtOk l t) : t ≠ [] := by
 intro e
 have := isN_pos h.1
 rw [e] at this
 simp at this
theorem RtOk.rw {l : List S59} {t : List Int} (h : RtOk l t) : RwB t := ⟨h.2, fun c hc => by
 rcases Int.lt_or_le c 0 with h0 | h0
 ·exact arU_lo h0 (isN_ar h.1 hc)
 ·omega⟩
theorem walkF_ok {l : List S59} {σ : List (List Int)} (hst : SrOk l σ) : ∀ (k : Nat) (t u : List Int), RtOk l t → walkF σ k t = some u → RtOk l u := by
 intro k
 induction k with
 | zero => intro t u _ e; cases e
 | succ k ih =>
  intro t u ht e
  simp only [walkF] at e
  split at e
  ·rename_i h
   exact ih _ u (hst.2 _ h.2.2) e
  ·obtain rfl := Option.some.inj e; exact ht
theorem sr_set {l : List S59} {σ : List (List Int)} {n : Nat} {y : List Int} (hst : SrOk l σ) (hy : RtOk l y) : SrOk l (σ.set n y) := by
 refine ⟨by rw [List.length_set]; exact hst.1, fun v hv => ?_⟩
 by_cases hlt : v < σ.length
 ·by_cases e : v = n
  ·subst e
   rw [getD_same hlt]
   exact hy
  ·rw [getD_other e] at hv ⊢
   exact hst.2 v hv
 ·have hl : (σ.set n y).length ≤ v := by rw [List.length_set]; omega
  rw [List.getD_eq_getElem?_getD, List.getElem?_eq_none hl] at hv
  exact absurd rfl hv
theorem pair1F_ok {l : List S59} {σ σ' : List (List Int)} {k : Nat} {x t : List Int} {both : Bool} (hst : SrOk l σ) (hx : RtOk l x) (ht : RtOk l t) (e : pair1F k σ x t both = some (some σ')) : SrOk l σ' := by
 simp only [pair1F] at e
 split at e
 ·obtain rfl := Option.some.inj (Option.some.inj e); exact sr_set hst hx
 ·obtain ⟨b, _, e⟩ := Option.bind_eq_some_iff.1 e
  have e := Option.some.inj e
  split at e
  ·cases e
  ·obtain rfl := Option.some.inj e; exact sr_set hst ht
theorem allL_ok {l : List S59} {f : List (List Int) → List Int → List Int → Option (Option (List (List Int)))} (hf : ∀ σ a b σ', SrOk l σ → RtOk l a → RtOk l b → f σ a b = some (some σ') → SrOk l σ') : ∀ (xs ys : List (List Int)) (σ σ' : List (List Int)), SrOk l σ → (∀ t ∈ xs, RtOk l t) → (∀ t ∈ ys, RtOk l t) → allL f σ xs ys = some (some σ') → SrOk l σ' := by
 intro xs
 induction xs with
 | nil => intro ys σ σ' h _ _ e; simp only [allL] at e; obtain rfl := Option.some.inj (Option.some.inj e); exact h
 | cons x xs ih =>
  intro ys σ σ' h hx hy e
  cases ys with
  | nil => simp only [allL] at e; cases e
  | cons y ys =>
   simp only [allL] at e
   obtain ⟨q, hq, e⟩ := Option.bind_eq_some_iff.1 e
   cases q with
   | none => cases e
   | some τ => exact ih ys τ σ' (hf _ _ _ _ h (hx x (List.mem_cons_self ..)) (hy y (List.mem_cons_self ..)) hq) (fun t ht => hx t (List.mem_cons_of_mem _ ht)) (fun t ht => hy t (List.mem_cons_of_mem _ ht)) e
theorem drop1_parts {l : List S59} {t : List Int} (h : RtOk l t) (h0 : ¬ rd t 0 < 0) : ∃ m, arU l (rd t 0) = some m ∧ isN (arU l) m (t.drop 1) ∧ (t.drop 1).length ≤ 48 ∧ (pcsU l (t.drop 1)).length = m ∧ ∀ s ∈ pcsU l (t.drop 1), RtOk l s := by
 obtain ⟨c, r, m, e, e1, a1, a2, _⟩ := h.head
 have hd : t.drop 1 = r := by rw [e]; rfl
 have hl := h.2
 rw [e, List.length_cons] at hl
 have pr := pcsU_facts a2 (by omega)
 exact ⟨m, by rw [e1]; exact a1, by rw [hd]; exact a2, by rw [hd]; omega, by rw [hd]; exact pr.2.1, by rw [hd]; exact pr.2.2⟩
theorem pairF_ok {l : List S59} : ∀ (k : Nat) (σ : List (List Int)) (a b : List Int) (σ' : List (List Int)), SrOk l σ → RtOk l a → RtOk l b → pairF l k σ a b = some (some σ') → SrOk l σ' := by
 intro k
 induction k with
 | zero => intro σ a b σ' _ _ _ e; cases e
 | succ k ih =>
  intro σ a b σ' h ha hb e
  simp only [pairF] at e
  obtain ⟨u, hu, e⟩ := Option.bind_eq_some_iff.1 e
  obtain ⟨v, hv, e⟩ := Option.bind_eq_some_iff.1 e
  have hu := walkF_ok h k a u ha hu
  have hv := walkF_ok h k b v hb hv
  split at e
  ·obtain rfl := Option.some.inj (Option.some.inj e); exact h
  ·split at e
   ·exact pair1F_ok h hv hu e
   ·split at e
    ·exact pair1F_ok h hu hv e
    ·rename_i hA hc
     split at e
     ·cases e
     ·rename_i hne
      have h0 : ¬ rd v 0 < 0 := by have := Classical.not_not.1 hne; omega
      obtain ⟨_, _, _, _, _, p1⟩ := drop1_parts hu hc
      obtain ⟨_, _, _, _, _, p2⟩ := drop1_parts hv h0
      exact allL_ok ih _ _ _ _ h p1 p2 e
/-- What a step of the store answers. -/
def StepC (w0 w : World) (g : Nat) (R : Option (List (List Int))) (e : Ending) (w' : World) : Prop :=
 e = .returned (.bool R.isSome) ∧ (∀ σ', R = some σ' → SAt w0 w' g σ') ∧ KeepBut w w' g none ∧ Below w0.heap.size w0 w'
def PairC (w0 : World) (g : Nat) (A0 : Option Addr) (c0 : Nat) (l : List S59) (k : Nat) : Prop :=
 ∀ (σ : List (List Int)) (a b : List Int) (A A' : Option Addr) (c c' : Nat) (R : Option (List (List Int))) (w : World), Below w0.heap.size w0 w → SAt w0 w g σ → SrOk l σ → RtOk l a → RwM w0 a A c → RtOk l b → RwM w0 b A' c' → pairF l k σ a b = some R →
  Calls Tryd.prog 70 #[.pointer (some ⟨g, 0, none⟩), .slice A0 l.length c0, .slice A a.length c, .slice A' b.length c'] w (StepC w0 w g R)
theorem allL_drop {f : List (List Int) → List Int → List Int → Option (Option (List (List Int)))} {σ : List (List Int)} {xs ys : List (List Int)} {i : Nat} (hi : i < xs.length) (hl : xs.length = ys.length) :
  allL f σ (xs.drop i) (ys.drop i) = (f σ (xs.getD i []) (ys.getD i [])).bind fun q => match q with | none => some none | some σ' => allL f σ' (xs.drop (i + 1)) (ys.drop (i + 1)) := by
 have e1 : xs.getD i [] = xs[i] := by simp [List.getD_eq_getElem?_getD, hi]
 have e2 : ys.getD i [] = ys[i]'(by omega) := by simp [List.getD_eq_getElem?_getD, show i < ys.length by omega]
 rw [e1, e2, List.drop_eq_getElem_cons hi, List.drop_eq_getElem_cons (show i < ys.length by omega)]
 rfl
set_option maxHeartbeats 1000000 in
set_option maxRecDepth 100000 in
theorem all_calls (g : Nat) (A0 : Option Addr) (c0 : Nat) (l : List S59) (k : Nat) (xs ys : List (List Int)) (va vb : Value) (base : Nat) (σ : List (List Int)) (R : Option (List (List Int))) (w0 w : World) (hP : PairC w0 g A0 c0 l k)
  (hB : Below w0.heap.size w0 w) (hg : w0.heap.size ≤ g) (hR : SAt w0 w g σ) (hst : SrOk l σ) (hlen : xs.length = ys.length) (hx : ∀ t ∈ xs, RtOk l t) (hy : ∀ t ∈ ys, RtOk l t)
  (ha : (kRW w0).R 23 w base (fun q => q ≠ g) va xs) (hb : (kRW w0).R 23 w base (fun q => q ≠ g) vb ys) (h : allL (pairF l k) σ xs ys = some R) :
  Calls Tryd.prog 60 #[.pointer (some ⟨g, 0, none⟩), .slice A0 l.length c0, va, vb] w (StepC w0 w g R) := by
 obtain ⟨AX, cx, rfl⟩ := Kd.R_slice ha
 obtain ⟨AY, cy, rfl⟩ := Kd.R_slice hb
 have HP := Aside0.mk hP
 have HB := Aside0.mk hB
 have HG := Aside0.mk hg
 have HR := Aside0.mk hR
 have HST := Aside0.mk hst
 have HLEN := Aside0.mk hlen
 have HX := Aside0.mk hx
 have HY := Aside0.mk hy
 have HA := Aside0.mk ha
 have HBB := Aside0.mk hb
 have H := Aside0.mk h
 have HXL := Aside0.mk (Kd.R_reads' ha).2.2.2.1
 clear hP hB hg hR hst hlen hx hy ha hb h
 unfold StepC
 go_enter Tryd.func60, Tryd.ntmps60
 go_wp2
 go_loopg [9] (xs.length + 1) (fun kq v9 w' => ∃ (i : Nat) (τ : List (List Int)), v9 = .int .i64 (i : Int) ∧ Aside0 (i ≤ xs.length ∧ kq + i = xs.length + 1) ∧ Aside0 (allL (pairF l k) τ (xs.drop i) (ys.drop i) = some R) ∧ Aside0 (SAt w0 w' g τ) ∧ Aside0 (SrOk l τ) ∧ Aside0 (KeepBut w w' g none) ∧ Aside0 (Below w0.heap.size w0 w'))
 case atStart => exact ⟨0, σ, rfl, ⟨by omega, by omega⟩, H, HR, HST, ⟨KeepBut.refl _ _ _⟩, HB⟩
 case round =>
  clear H HR HST
  obtain ⟨i, τ, rfl, HI, H, HR, HST, HKP, HB1⟩ := hrel
  by_cases hi : i < xs.length
  ·have hi0 : (0 : Int) ≤ (i : Int) := by omega
   have hi1 : (i : Int) < (xs.length : Int) := by omega
   have hi2 : i < ys.length := by have := HLEN.out; omega
   have hi3 : (i : Int) < (ys.length : Int) := by omega
   have h := H.out
   rw [allL_drop hi HLEN.out] at h
   obtain ⟨q, hq, h⟩ := Option.bind_eq_some_iff.1 h
   have hRA := Kd.R_keep HA.out HKP.out (fun k hk => hk)
   have hRB := Kd.R_keep HBB.out HKP.out (fun k hk => hk)
   obtain ⟨gx, capx, PA, pc, e1, _, _, hpx, hpl, hpC, hpA⟩ := rw_at hRA i hi
   injection e1 with e1 _ e3
   subst e1 e3
   obtain ⟨gy, capy, QA, qc, e1, _, _, hqx, hql, hqC, hqA⟩ := rw_at hRB i hi2
   injection e1 with e1 _ e3
   subst e1 e3
   have hgx : gx ≠ g := hRA.1 gx (by simp [Value.ownBlock])
   have hgy : gy ≠ g := hRB.1 gy (by simp [Value.ownBlock])
   have hxo := HX.out (xs.getD i []) (by rw [List.getD_eq_getElem?_getD, List.getElem?_eq_getElem hi]; exact List.getElem_mem _)
   have hyo := HY.out (ys.getD i []) (by rw [List.getD_eq_getElem?_getD, List.getElem?_eq_getElem hi2]; exact List.getElem_mem _)
   generalize xs.getD i [] = p at hpx hpl hpC hpA hxo hq
   generalize ys.getD i [] = r at hqx hql hqC hqA hyo hq
   have HPC := Aside0.mk (show ∀ w2, Below wr.heap.size wr w2 → Calls Tryd.prog 70 #[.pointer (some ⟨g, 0, none⟩), .slice A0 l.length c0, .slice PA p.length pc, .slice QA r.length qc] w2 (StepC w0 w2 g q) from fun w2 h2 => HP.out τ p r PA QA pc qc q w2 (below_weaken HB1.out HB1.out.size h2) (HR.out.below h2) HST.out hxo ⟨hpl, hpC, hxo.rw, hpA⟩ hyo ⟨hql, hqC, hyo.rw, hqA⟩ hq)
   have HSG := Aside0.mk (show ∀ w', KeepBut wr w' g none → w'.cell? ⟨gx, i, none⟩ = some (.slice PA p.length pc) ∧ w'.cell? ⟨gy, i, none⟩ = some (.slice QA r.length qc) from fun w' h' => ⟨keep_cell h' hpx hgx, keep_cell h' hqx hgy⟩)
   have HN := Aside0.mk h
   have HOKQ := Aside0.mk (show ∀ τ', q = some τ' → SrOk l τ' from fun τ' e => pairF_ok k τ p r τ' HST.out hxo hyo (by rw [hq, e]))
   have HW1 := Aside0.mk (wrap_nat i (by have := HXL.out; unfold maxLen at this; omega))
   clear h hq hRA hRB hpx hpl hpC hpA hqx hql hqC hqA hxo hyo hgx hgy hi
   go_wp2
   go_region_held3 (fun w' => w'.cell? ⟨gx, i, none⟩ = some (.slice PA p.length pc) ∧ w'.cell? ⟨gy, i, none⟩ = some (.slice QA r.length qc))
    (first | exact HSG.out _ hk5 | (refine HSG.out _ (KeepBut.of_below ?_ _ _); (repeat (first | exact Below.refl _ _ | apply below_drew1)); done))
    (first | (go_at_call 70; (with_reducible refine (HPC.out _ ?hb).mono ?_); (case hb => repeat (first | exact Below.refl _ _ | apply below_drew1)); rintro e w5 ⟨rfl, hrun, hkp, hbl⟩; have hk5 := KeepBut.trans (KeepBut.of_below (show Below wr.heap.size wr _ from by repeat (first | exact Below.refl _ _ | apply below_drew1)) g none) hkp (.inl rfl)))
   have HK5 := Aside0.mk (HKP.out.trans hk5 (.inl rfl))
   have HB5 := Aside0.mk hbl
   have HR5 := Aside0.mk hrun
   clear hrun hkp hbl hk5
   cases q with
   | none =>
    have he := HN.out
    simp only at he
    have HE := Aside0.mk (Option.some.inj he).symm
    clear he HN
    go_wp2
    go_ret
    exact ⟨by rw [HE.out]; rfl, (fun σ' e => by rw [HE.out] at e; cases e), HK5.out, HB5.out⟩
   | some τ' =>
    have he := HN.out
    simp only at he
    have H' := Aside0.mk he
    have HR6 := Aside0.mk (HR5.out τ' rfl)
    have HS6 := Aside0.mk (HOKQ.out τ' rfl)
    clear he HN HR5 HOKQ
    go_wp2
    go_roundg (gk - 1)
    case measure => have := HI.out; omega
    case rel => exact ⟨i + 1, τ', by first | exact congrArg (Value.int .i64) HW1.out | rfl | go_num | (simp; done), ⟨by have := HI.out; omega, by have := HI.out; omega⟩, H', HR6, HS6, HK5, HB5⟩
  ·have hil : i = xs.length := by have := HI.out; omega
   have h := H.out
   rw [hil, List.drop_length] at h
   simp only [allL] at h
   have HE := Aside0.mk (Option.some.inj h).symm
   have d1 : decide ((i : Int) < (xs.length : Int)) = false := by simp; omega
   have d2 : decide (i < xs.length) = false := by simpa using hi
   clear h hil hi
   go_wp2
   go_ret
   exact ⟨by rw [HE.out]; rfl, (fun σ' e => by rw [HE.out] at e; obtain rfl := Option.some.inj e; exact HR.out), HKP.out, HB1.out⟩
end Go.Proofs.YteffiodbflmfkaaDoor.PP
namespace Go.Proofs.YteffiodbflmfkaaDoor.PP
open Go Go.RowKit Go.Proofs.YteffiodbflmfkaaDoorW.PrintWords Go.Proofs.YteffiodbflmfkaaDoorW.PrintLast Go.Proofs.YteffiodbflmfkaaDoorW.PrintMore Go.Proofs.YteffiodbflmfkaaDoor
set_option linter.unusedVariables false
set_option linter.unusedSimpArgs false
set_option maxHeartbeats 4000000 in
set_option maxRecDepth 100000 in
theorem pair_calls (g : Nat) (A0 : Option Addr) (c0 : Nat) (l : List S59) (w0 : World) (hg : w0.heap.size ≤ g) (hs : SignOk l) (hr0 : Kd.C k59 w0 A0 l.length l) (hc0 : l.length ≤ c0) : ∀ k, PairC w0 g A0 c0 l k := by
 have HG := Aside0.mk hg
 have HS := Aside0.mk hs
 have HR0 := Aside0.mk hr0
 have HC0 := Aside0.mk hc0
 clear hg hs hr0 hc0
 intro k
 induction k with
 | zero => intro σ a b A A' c c' R w _ _ _ _ _ _ _ h; exact absurd h (by simp [pairF])
 | succ k1 ih =>
 intro σ a b A A' c c' R w hB hR hst hao ha hbo hb h
 have IH := Aside0.mk ih
 clear ih
 simp only [pairF] at h
 obtain ⟨u, hu, h⟩ := Option.bind_eq_some_iff.1 h
 obtain ⟨v, hv, h⟩ := Option.bind_eq_some_iff.1 h
 have huo := walkF_ok hst k1 a u hao hu
 have hvo := walkF_ok hst k1 b v hbo hv
 have HB := Aside0.mk hB
 have HR := Aside0.mk hR
 have HST := Aside0.mk hst
 have HA := Aside0.mk ha
 have HBB := Aside0.mk hb
 have HU := Aside0.mk hu
 have HV := Aside0.mk hv
 have HUO := Aside0.mk huo
 have HVO := Aside0.mk hvo
 have H := Aside0.mk h
 obtain ⟨ks, hks⟩ := (refSame_ev u v (Nat.le_trans huo.2 (by decide))).rounds
 have HKS := Aside0.mk hks
 clear hB hR hst hao ha hbo hb hu hv huo hvo h hks
 unfold StepC
 go_enter Tryd.func70, Tryd.ntmps70
 go_wp2_with fail
 refine (walk_calls g σ k1 a u A c w0 w HB.out HR.out HA.out HU.out).mono ?_
 rintro e w1 ⟨UA, uc, rfl, hum, hb1⟩
 have HUM := Aside0.mk hum
 have HB1 := Aside0.mk hb1
 clear hum hb1
 go_wp2_with fail
 refine (walk_calls g σ k1 b v A' c' w0 w1 (below_weaken HB.out HB.out.size HB1.out) (HR.out.below HB1.out) HBB.out HV.out).mono ?_
 rintro e w2 ⟨VA, vc, rfl, hvm, hb2⟩
 have HVM := Aside0.mk hvm
 have HB2 := Aside0.mk (below_step HB1.out hb2)
 clear hvm hb2 HB1
 have HB02 := Aside0.mk (below_weaken HB.out HB.out.size HB2.out)
 have HR2 := Aside0.mk (HR.out.below HB2.out)
 obtain ⟨ua, rfl, huh, hul, hulo⟩ := HUM.out.cell HB02.out HUO.out.ne
 obtain ⟨va, rfl, hvh, hvl, hvlo⟩ := HVM.out.cell HB02.out HVO.out.ne
 have hul' : (0 : Int) < (u.length : Int) := by omega
 have hvl' : (0 : Int) < (v.length : Int) := by omega
 go_wp2_with fail
 refine (quaereref1_Same.calls ks _ _ u _ _ v (decide (u = v)) _ (Kd.C_below HUM.out.row HB02.out) HUM.out.room (Kd.C_below HVM.out.row HB02.out) HVM.out.room HKS.out).mono ?_
 rintro e w3 ⟨rfl, ⟨nd, rfl⟩⟩
 have h := H.out
 have HKP := Aside0.mk (show KeepBut w (w2.drewN nd) g none from KeepBut.of_below (pw_below_drewN HB2.out nd) g none)
 have HB03 := Aside0.mk (show Below w0.heap.size w0 (w2.drewN nd) from pw_below_drewN HB02.out nd)
 have HR3 := Aside0.mk (HR2.out.below (pw_below_drewN (Below.refl _ _) nd))
 by_cases huv : u = v
 ·rw [if_pos huv] at h
  have HE := Aside0.mk (Option.some.inj h).symm
  have e1 : decide (u = v) = true := decide_eq_true huv
  rw [e1]
  clear h huv e1
  go_wp2
  go_ret
  exact ⟨by rw [HE.out]; rfl, (fun σ' e => by rw [HE.out] at e; obtain rfl := Option.some.inj e; exact HR3.out), HKP.out, HB03.out⟩
 ·rw [if_neg huv] at h
  have e1 : decide (u = v) = false := decide_eq_false huv
  rw [e1]
  clear e1 huv
  obtain ⟨cu, hcu⟩ : ∃ cu, cu = rd u 0 := ⟨_, rfl⟩
  obtain ⟨cv, hcv⟩ : ∃ cv, cv = rd v 0 := ⟨_, rfl⟩
  have HCU := Aside0.mk hcu
  have HCV := Aside0.mk hcv
  rw [← hcu] at huh hulo h
  rw [← hcv] at hvh hvlo h
  clear hcu hcv
  have PV := Aside0.mk (show ∀ (q : Option (List (List Int))) (w5 : World), cv < 0 → Below w2.heap.size w2 w5 → pair1F k1 σ v u (decide (cu < 0)) = some q → Calls Tryd.prog 77 #[.pointer (some ⟨g, 0, none⟩), .slice (some va) v.length vc, .slice (some ua) u.length uc, .bool (decide (cu < 0))] w5 fun e w' => e = .returned (.bool q.isSome) ∧ (∀ σ', q = some σ' → SAt w0 w' g σ') ∧ KeepBut w5 w' g none ∧ Below w0.heap.size w0 w' from fun q w5 hc h5 hq => pair1_calls g σ k1 v u (decide (cu < 0)) (some va) (some ua) vc uc q w0 w5 (below_weaken HB02.out HB02.out.size h5) HG.out (HR2.out.below h5) HVM.out HVO.out.ne (by rw [← HCV.out]; exact hc) HUM.out HUO.out.ne (fun hh => by rw [← HCU.out]; exact of_decide_eq_true hh) hq)
  have PU := Aside0.mk (show ∀ (q : Option (List (List Int))) (w5 : World), cu < 0 → Below w2.heap.size w2 w5 → pair1F k1 σ u v (decide (cv < 0)) = some q → Calls Tryd.prog 77 #[.pointer (some ⟨g, 0, none⟩), .slice (some ua) u.length uc, .slice (some va) v.length vc, .bool (decide (cv < 0))] w5 fun e w' => e = .returned (.bool q.isSome) ∧ (∀ σ', q = some σ' → SAt w0 w' g σ') ∧ KeepBut w5 w' g none ∧ Below w0.heap.size w0 w' from fun q w5 hc h5 hq => pair1_calls g σ k1 u v (decide (cv < 0)) (some ua) (some va) uc vc q w0 w5 (below_weaken HB02.out HB02.out.size h5) HG.out (HR2.out.below h5) HUM.out HUO.out.ne (by rw [← HCU.out]; exact hc) HVM.out HVO.out.ne (fun hh => by rw [← HCV.out]; exact of_decide_eq_true hh) hq)
  by_cases hA : cu < 0 ∧ cv < 0 ∧ cu < cv ∨ 0 ≤ cu ∧ cv < 0
  ·rw [if_pos hA] at h
   have HQ := Aside0.mk h
   have hcv0 : cv < 0 := by omega
   have d2 : decide (cv < 0) = true := decide_eq_true hcv0
   clear h
   by_cases hcu0 : cu < 0
   ·have d1 : decide (cu < 0) = true := decide_eq_true hcu0
    have d3 : decide (cu < cv) = true := decide_eq_true (by omega)
    have hq := HQ.out
    rw [d1] at hq
    have PC := Aside0.mk (fun w5 h5 => by have := PV.out R w5 hcv0 h5 HQ.out; rw [d1] at this; exact this : ∀ w5, Below w2.heap.size w2 w5 → Calls Tryd.prog 77 #[.pointer (some ⟨g, 0, none⟩), .slice (some va) v.length vc, .slice (some ua) u.length uc, .bool true] w5 fun e w' => e = .returned (.bool R.isSome) ∧ (∀ σ', R = some σ' → SAt w0 w' g σ') ∧ KeepBut w5 w' g none ∧ Below w0.heap.size w0 w')
    clear hA hq HQ PV PU hcv0 hcu0
    go_wp2
    go_quiet (fail)
    go_wp2_with fail
    refine (PC.out _ (by repeat (first | exact Below.refl _ _ | apply pw_below_drewN | apply below_drew1))).mono ?_
    rintro e w5 ⟨rfl, hrun, hkp, hbl⟩
    go_wp2
    go_ret
    exact ⟨rfl, hrun, KeepBut.trans (KeepBut.of_below (by repeat (first | exact HB2.out | apply pw_below_drewN | apply below_drew1)) g none) hkp (.inl rfl), hbl⟩
   ·have d1 : decide (cu < 0) = false := decide_eq_false hcu0
    have d3 : decide ((0 : Int) ≤ cu) = true := decide_eq_true (by omega)
    have PC := Aside0.mk (fun w5 h5 => by have := PV.out R w5 hcv0 h5 HQ.out; rw [d1] at this; exact this : ∀ w5, Below w2.heap.size w2 w5 → Calls Tryd.prog 77 #[.pointer (some ⟨g, 0, none⟩), .slice (some va) v.length vc, .slice (some ua) u.length uc, .bool false] w5 fun e w' => e = .returned (.bool R.isSome) ∧ (∀ σ', R = some σ' → SAt w0 w' g σ') ∧ KeepBut w5 w' g none ∧ Below w0.heap.size w0 w')
    clear hA HQ PV PU hcv0 hcu0
    go_wp2
    go_quiet (fail)
    go_wp2_with fail
    refine (PC.out _ (by repeat (first | exact Below.refl _ _ | apply pw_below_drewN | apply below_drew1))).mono ?_
    rintro e w5 ⟨rfl, hrun, hkp, hbl⟩
    go_wp2
    go_ret
    exact ⟨rfl, hrun, KeepBut.trans (KeepBut.of_below (by repeat (first | exact HB2.out | apply pw_below_drewN | apply below_drew1)) g none) hkp (.inl rfl), hbl⟩
  ·rw [if_neg hA] at h
   by_cases hcu0 : cu < 0
   ·rw [if_pos hcu0] at h
    have d1 : decide (cu < 0) = true := decide_eq_true hcu0
    have d3 : decide ((0 : Int) ≤ cu) = false := decide_eq_false (by omega)
    have HQ := Aside0.mk h
    clear h
    by_cases hcv0 : cv < 0
    ·have d2 : decide (cv < 0) = true := decide_eq_true hcv0
     have d4 : decide (cu < cv) = false := decide_eq_false (by omega)
     have PC := Aside0.mk (fun w5 h5 => by have := PU.out R w5 hcu0 h5 HQ.out; rw [d2] at this; exact this : ∀ w5, Below w2.heap.size w2 w5 → Calls Tryd.prog 77 #[.pointer (some ⟨g, 0, none⟩), .slice (some ua) u.length uc, .slice (some va) v.length vc, .bool true] w5 fun e w' => e = .returned (.bool R.isSome) ∧ (∀ σ', R = some σ' → SAt w0 w' g σ') ∧ KeepBut w5 w' g none ∧ Below w0.heap.size w0 w')
     clear hA HQ PV PU hcv0 hcu0
     go_wp2
     go_quiet (fail)
     go_wp2_with fail
     refine (PC.out _ (by repeat (first | exact Below.refl _ _ | apply pw_below_drewN | apply below_drew1))).mono ?_
     rintro e w5 ⟨rfl, hrun, hkp, hbl⟩
     go_wp2
     go_ret
     exact ⟨rfl, hrun, KeepBut.trans (KeepBut.of_below (by repeat (first | exact HB2.out | apply pw_below_drewN | apply below_drew1)) g none) hkp (.inl rfl), hbl⟩
    ·have d2 : decide (cv < 0) = false := decide_eq_false hcv0
     have PC := Aside0.mk (fun w5 h5 => by have := PU.out R w5 hcu0 h5 HQ.out; rw [d2] at this; exact this : ∀ w5, Below w2.heap.size w2 w5 → Calls Tryd.prog 77 #[.pointer (some ⟨g, 0, none⟩), .slice (some ua) u.length uc, .slice (some va) v.length vc, .bool false] w5 fun e w' => e = .returned (.bool R.isSome) ∧ (∀ σ', R = some σ' → SAt w0 w' g σ') ∧ KeepBut w5 w' g none ∧ Below w0.heap.size w0 w')
     clear hA HQ PV PU hcv0 hcu0
     go_wp2
     go_quiet (fail)
     go_wp2_with fail
     refine (PC.out _ (by repeat (first | exact Below.refl _ _ | apply pw_below_drewN | apply below_drew1))).mono ?_
     rintro e w5 ⟨rfl, hrun, hkp, hbl⟩
     go_wp2
     go_ret
     exact ⟨rfl, hrun, KeepBut.trans (KeepBut.of_below (by repeat (first | exact HB2.out | apply pw_below_drewN | apply below_drew1)) g none) hkp (.inl rfl), hbl⟩
   ·rw [if_neg hcu0] at h
    have hcv0 : ¬ cv < 0 := by omega
    have d1 : decide (cu < 0) = false := decide_eq_false hcu0
    have d2 : decide (cv < 0) = false := decide_eq_false hcv0
    have d3 : decide ((0 : Int) ≤ cu) = true := decide_eq_true (by omega)
    by_cases hne : cu ≠ cv
    ·rw [if_pos hne] at h
     have HE := Aside0.mk (Option.some.inj h).symm
     have e1 : (cu != cv) = true := by simpa using hne
     have e2 : (cu == cv) = false := by simpa using hne
     clear h hA hne hcu0 hcv0 PU PV
     go_wp2
     go_quiet (fail)
     go_wp2
     go_quiet (fail)
     go_wp2
     go_ret
     exact ⟨by rw [HE.out]; rfl, (fun σ' e => by rw [HE.out] at e; cases e), KeepBut.of_below (by repeat (first | exact HB2.out | apply pw_below_drewN | apply below_drew1)) g none, by repeat (first | exact HB02.out | apply pw_below_drewN | apply below_drew1)⟩
    ·rw [if_neg hne] at h
     have hne := Classical.not_not.1 hne
     have HQ := Aside0.mk h
     obtain ⟨m, am, p1, p2, p3, p4⟩ := drop1_parts HUO.out (by rw [← HCU.out]; exact hcu0)
     obtain ⟨m', am', q1, q2, q3, q4⟩ := drop1_parts HVO.out (by rw [← HCV.out]; exact hcv0)
     have hmm : m = m' := by
      rw [← HCU.out, hne] at am
      rw [← HCV.out, am] at am'
      exact Option.some.inj am'
     subst hmm
     obtain ⟨j0, hj0', _, hjs, _⟩ := info_parts info3
     have hcx := cut_from (P := Tryd.prog) 23 3 .i64 Tryd.underlying23 hj0' 1 hjs (some ua) u.length uc 1 (by omega) (by omega)
     have hcy := cut_from (P := Tryd.prog) 23 3 .i64 Tryd.underlying23 hj0' 1 hjs (some va) v.length vc 1 (by omega) (by omega)
     have hrx := Kd.C_drop (m := 1) (c := uc) HUM.out.row (by omega) HUM.out.room
     have hry := Kd.C_drop (m := 1) (c := vc) HVM.out.row (by omega) HVM.out.room
     have t1 : (1 : Int).toNat = 1 := rfl
     rw [t1] at hcx hcy
     obtain ⟨XT, hXT⟩ : ∃ XT, XT = (if uc = 1 then some ua else (some ua : Option Addr).map (·.add (1 * 1))) := ⟨_, rfl⟩
     obtain ⟨YT, hYT⟩ : ∃ YT, YT = (if vc = 1 then some va else (some va : Option Addr).map (·.add (1 * 1))) := ⟨_, rfl⟩
     rw [← hXT] at hcx
     rw [← hYT] at hcy
     have HPX := Aside0.mk (show ∀ w5, Below w2.heap.size w2 w5 → Calls Tryd.prog 44 #[.slice A0 l.length c0, .slice XT (u.length - 1) (uc - 1)] w5 fun e w' => ∃ v, e = .returned v ∧ (kRW w0).R 23 w' w5.heap.size (fun _ => True) v (pcsU l (u.drop 1)) ∧ Below w5.heap.size w5 w' from fun w5 h5 => by
      have hh := partsU_calls A0 c0 l XT (uc - 1) (u.drop 1) m w0 w5 (below_weaken HB02.out HB02.out.size h5) HS.out (by omega) p1 (Kd.C_below HR0.out (below_weaken HB02.out HB02.out.size h5)) HC0.out (by rw [hXT]; exact hrx) (by rw [List.length_drop]; have := HUM.out.room; omega)
      rw [List.length_drop] at hh
      exact hh)
     have HPY := Aside0.mk (show ∀ w5, Below w2.heap.size w2 w5 → Calls Tryd.prog 44 #[.slice A0 l.length c0, .slice YT (v.length - 1) (vc - 1)] w5 fun e w' => ∃ v', e = .returned v' ∧ (kRW w0).R 23 w' w5.heap.size (fun _ => True) v' (pcsU l (v.drop 1)) ∧ Below w5.heap.size w5 w' from fun w5 h5 => by
      have hh := partsU_calls A0 c0 l YT (vc - 1) (v.drop 1) m w0 w5 (below_weaken HB02.out HB02.out.size h5) HS.out (by omega) q1 (Kd.C_below HR0.out (below_weaken HB02.out HB02.out.size h5)) HC0.out (by rw [hYT]; exact hry) (by rw [List.length_drop]; have := HVM.out.room; omega)
      rw [List.length_drop] at hh
      exact hh)
     have hglt : g < w2.heap.size := by
      obtain ⟨_, cells, hh, _⟩ := HR2.out
      exact blk_lt hh
     have HALL := Aside0.mk (show ∀ (w5 : World) (x y : Value), Below w2.heap.size w2 w5 → (kRW w0).R 23 w5 w2.heap.size (fun _ => True) x (pcsU l (u.drop 1)) → (kRW w0).R 23 w5 w2.heap.size (fun _ => True) y (pcsU l (v.drop 1)) → Calls Tryd.prog 60 #[.pointer (some ⟨g, 0, none⟩), .slice A0 l.length c0, x, y] w5 (StepC w0 w5 g R) from fun w5 x y h5 hx hy =>
      all_calls g A0 c0 l k1 (pcsU l (u.drop 1)) (pcsU l (v.drop 1)) x y w2.heap.size σ R w0 w5 IH.out (below_weaken HB02.out HB02.out.size h5) HG.out (HR2.out.below h5) HST.out (by rw [p3, q3]) p4 q4 (Kd.R_mono (Kd.R_bound hx) (fun k hk => by have h7 := hk.2.1; show k ≠ g; omega)) (Kd.R_mono (Kd.R_bound hy) (fun k hk => by have h7 := hk.2.1; show k ≠ g; omega)) HQ.out)
     have e1 : (cu != cv) = false := by simpa using hne
     have e2 : (cu == cv) = true := by simpa using hne
     rw [hne] at huh e1 e2 d1 d3
     clear h hA hne hcu0 hcv0 PU PV hrx hry hXT hYT hj0' hjs p1 p2 p3 p4 q1 q2 q3 q4 am am' hglt
     go_wp2
     go_quiet (fail)
     go_wp2
     go_quiet (fail)
     go_wp2
     go_region_held3 (fun w' => True)
      (trivial)
      (first | (go_at_call 44; (with_reducible refine (HPX.out _ ?hb).mono ?_); (case hb => repeat (first | exact Below.refl _ _ | apply below_drew1 | apply pw_below_drewN)); rintro e wx ⟨vx, rfl, hvx, hbx⟩; have hbwx := below_step (show Below w2.heap.size w2 _ from by repeat (first | exact Below.refl _ _ | apply below_drew1 | apply pw_below_drewN)) hbx)
                                  | (go_at_call 44; (with_reducible refine (HPY.out _ hbwx).mono ?_); rintro e wy ⟨vy, rfl, hvy, hby⟩; have hbwy := below_step hbwx hby; have hvx2 := Kd.R_lower (Kd.R_below hvx hby) (show w2.heap.size ≤ _ from Nat.le_refl _); have hvy2 := Kd.R_lower hvy hbwx.size)
                                  | (go_at_call 60; (with_reducible refine (HALL.out _ _ _ hbwy hvx2 hvy2).mono ?_); rintro e w7 ⟨rfl, hrun, hkp, hbl⟩))
     have HKF := Aside0.mk (KeepBut.trans (KeepBut.of_below (below_step HB2.out hbwy) g none) hkp (.inl rfl))
     go_wp2
     go_ret
     exact ⟨rfl, hrun, HKF.out, hbl⟩
end Go.Proofs.YteffiodbflmfkaaDoor.PP
namespace Go.Proofs.YteffiodbflmfkaaDoor.PP
open Go Go.RowKit Go.Proofs.YteffiodbflmfkaaDoorW.PrintWords Go.Proofs.YteffiodbflmfkaaDoorW.PrintLast Go.Proofs.YteffiodbflmfkaaDoorW.PrintMore Go.Proofs.YteffiodbflmfkaaDoor
set_option linter.unusedVariables false
set_option linter.unusedSimpArgs false
def str0 : List (List Int) := List.replicate 48 []
theorem getD_str0 (w : Nat) : str0.getD w [] = [] := by
 unfold str0
 rw [List.getD_eq_getElem?_getD, List.getElem?_replicate]
 split <;> rfl
theorem tauR_str0 : tauR str0 = fun _ => [] := by
 funext c
 unfold tauR refw
 rw [getD_str0]
 split <;> rfl
theorem str0_ok (l : List S59) : SrOk l str0 := ⟨List.length_replicate, fun w h => absurd (getD_str0 w) h⟩
theorem all_top {l : List S59} {a b : List Int} {n : Nat} (ha : isN (arU l) n a) (hb : isN (arU l) n b) (hla : a.length ≤ 48) (hlb : b.length ≤ 48) :
  ∃ q, Ev (fun k => allL (pairF l k) str0 (pcsU l a) (pcsU l b)) q ∧ match q with
   | none => ∀ θ, GoodA (arU l) θ → subV θ a ≠ subV θ b
   | some σ' => SrOk l σ' ∧ ∃ ς', Mgu l a b (tauR σ') ς' := by
 have hsol : Solved (arU l) (tauR str0) (fun c => [c]) := by rw [tauR_str0]; exact solved_init (arU_var l)
 have pr := pcsU_facts ha hla
 have ps := pcsU_facts hb hlb
 obtain ⟨q, h1, h2⟩ := all_ev (l := l) (σ := str0) (ς := fun c => [c]) (S := (subV (fun c => [c]) a).length + 1) (fun σ' ς' a' b' g1 g2 g3 g4 _ => pair_ev _ _ σ' ς' a' b' (Nat.le_refl _) (Nat.le_refl _) g1 g2 g3 g4) (pcsU l a) (pcsU l b) (by rw [pr.2.1, ps.2.1]) (fun t ht => ⟨pr.2.2 t ht, by
  have hs : ∀ r : List Int, subV (fun c => [c]) r = r := fun r => sub_id r (fun _ _ _ => rfl)
  rw [hs, hs]
  have := mem_flatten_len ht
  rw [pr.1] at this
  omega⟩) ps.2.2 str0 _ (str0_ok l) hsol (.inr ⟨rfl, rfl⟩)
 have hr0 : ∀ θ, Resp θ (tauR str0) := by
  intro θ c _ h
  rw [tauR_str0] at h
  exact absurd rfl h
 have hu : ∀ θ, GoodA (arU l) θ → (UniR θ (pcsU l a) (pcsU l b) ↔ subV θ a = subV θ b) := by
  intro θ hg
  rw [uniR_iff hg _ _ (by rw [pr.2.1, ps.2.1]) (fun t ht => (pr.2.2 t ht).1) (fun t ht => (ps.2.2 t ht).1), pr.1, ps.1]
 refine ⟨q, h1, ?_⟩
 cases q with
 | none => exact fun θ hg e => h2 θ hg (hr0 θ) ((hu θ hg).2 e)
 | some σ' =>
  obtain ⟨a1, ⟨ς', a2⟩, a3, _⟩ := h2
  refine ⟨a1, ς', a2, fun θ hg => ?_⟩
  have h3 : (Resp θ (tauR str0) ∧ UniR θ (pcsU l a) (pcsU l b)) ↔ Resp θ (tauR σ') := a3 θ hg
  rw [← h3, hu θ hg]
  exact ⟨fun h => ⟨hr0 θ, h⟩, fun h => h.2⟩
end Go.Proofs.YteffiodbflmfkaaDoor.PP
namespace Go.Proofs.YteffiodbflmfkaaDoor.PP
open Go Go.RowKit Go.Proofs.YteffiodbflmfkaaDoorW.PrintWords Go.Proofs.YteffiodbflmfkaaDoorW.PrintLast Go.Proofs.YteffiodbflmfkaaDoorW.PrintMore Go.Proofs.YteffiodbflmfkaaDoor
set_option linter.unusedVariables false
set_option linter.unusedSimpArgs false
noncomputable def togetherV (l : List S59) (a b : List Int) : List S66 × Bool × Bool := if (unifyV l a b).2.2 = 401 then ([], true, false) else ((unifyV l a b).1, (unifyV l a b).2.1, true)
noncomputable def cells48 : Array Value := Array.replicate 48 (.slice none 0 0)
theorem sat_new (w0 W : World) : SAt w0 (W.alloc (.cells cells48 79)) W.heap.size str0 := by
 refine ⟨List.length_replicate, _, heap_alloc_new _ _, Array.size_replicate, fun v hv => ⟨none, 0, ?_, ?_⟩⟩
 ·rw [getD_str0, cells48, Array.getElem?_replicate, if_pos hv]
  rfl
 ·rw [getD_str0]
  exact ⟨Nat.le_refl _, ⟨rfl, by decide, fun h => absurd h (Nat.lt_irrefl 0)⟩, ⟨by decide, fun c hc => (by cases hc)⟩, fun h => absurd rfl h⟩
end Go.Proofs.YteffiodbflmfkaaDoor.PP
