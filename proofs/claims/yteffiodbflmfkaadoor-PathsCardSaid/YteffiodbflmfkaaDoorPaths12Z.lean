/- Paths, whole. -/
import Derived.Test.YteffiodbflmfkaaDoorTermsZ
import Derived.WalkSpells
import Derived.Test.YteffiodbflmfkaaDoorWRest
import Derived.Test.YteffiodbflmfkaaDoorPPx0
import Derived.Test.YteffiodbflmfkaaDoorPPx2
import Derived.Test.YteffiodbflmfkaaDoorPPx6Z
import Derived.Test.YteffiodbflmfkaaDoorRefPathsZ
import Derived.Test.YteffiodbflmfkaaDoorRefIsTermZ
import Derived.Test.YteffiodbflmfkaaDoorRefAtomZ
import Derived.Test.YteffiodbflmfkaaDoorPathSZ
import Derived.Test.YteffiodbflmfkaaDoorPathWZ
import Derived.Test.YteffiodbflmfkaaDoorPathPZ
import Derived.Test.YteffiodbflmfkaaDoorAwake12Z
import Derived.Test.YteffiodbflmfkaaDoorPPx4
import Derived.Test.YteffiodbflmfkaaDoorPPx11
import Derived.Test.YteffiodbflmfkaaDoorPPx12
import Derived.Test.YteffiodbflmfkaaDoorPPx20Z
import Derived.Test.YteffiodbflmfkaaDoorPPx5Z
namespace Go.Proofs.YteffiodbflmfkaaDoor.PP
open Go Go.RowKit Go.Proofs.YteffiodbflmfkaaDoorW.PrintWords Go.Proofs.YteffiodbflmfkaaDoorW.PrintLast Go.Proofs.YteffiodbflmfkaaDoorW.PrintMore Go.Proofs.YteffiodbflmfkaaDoor
set_option linter.unusedVariables false
set_option linter.unusedSimpArgs false
def marks : List Int := [-7777, -8888]
/-- A row with the marks behind it. -/
structure Lent (w : World) (base : Nat) (A : Option Addr) (c : Nat) (l : List Int) : Prop where mk ::
  out : Kd.R (Kd.int .i64) 3 w base (fun _ => True) (.slice A (l ++ marks).length c) (l ++ marks)
theorem Lent.below {w w1 : World} {base : Nat} {A : Option Addr} {c : Nat} {l : List Int} (h : Lent w base A c l) (hb : Below w.heap.size w w1) : Lent w1 base A c l := ⟨Kd.R_below h.out hb⟩
theorem Lent.cap {w : World} {base : Nat} {A : Option Addr} {c : Nat} {l : List Int} (h : Lent w base A c l) : l.length + 2 ≤ c := by
  have := (Kd.R_reads' h.out).2.1
  rw [List.length_append] at this
  exact this
theorem Lent.reads {w : World} {base : Nat} {A : Option Addr} {c : Nat} {l : List Int} (h : Lent w base A c l) : Kd.C (Kd.int .i64) w A l.length l := by
  have h2 := Kd.R_take h.out (m := l.length) (by simp)
  rw [List.take_left'  rfl] at h2
  exact (Kd.R_reads' h2).2.2
theorem Lent.full {w : World} {base : Nat} {A : Option Addr} {c : Nat} {l : List Int} (h : Lent w base A c l) : Kd.C (Kd.int .i64) w A (l ++ marks).length (l ++ marks) := (Kd.R_reads' h.out).2.2
set_option maxHeartbeats 8000000 in
set_option maxRecDepth 100000 in
theorem lend_calls (A0 : Option Addr) (c0 : Nat) (l0 : List Int) (w : World) (hr0 : Kd.C (Kd.int .i64) w A0 l0.length l0) (hc0 : l0.length ≤ c0) (hl : l0.length < 17592186044400) :
    Calls Tryd.prog 9 #[.slice A0 l0.length c0] w fun e w' => ∃ A c, e = .returned (.slice A l0.length c) ∧ Lent w' w.heap.size A c l0 ∧ Below w.heap.size w w' := by
  have HR0 := Aside0.mk hr0
  have HC0 := Aside0.mk hc0
  have HL := Aside0.mk hl
  have HCP := Aside0.mk (show quaerelaw0_CopyInts.f l0 = some l0 from by
    unfold quaerelaw0_CopyInts.f
    simp only [Option.bind_some]
    rw [if_pos (by simp; omega)]
    simp)
  clear hr0 hc0 hl
  have HB := Aside0.mk (Below.refl w.heap.size w)
  have hi0 : 0 ≤ (l0.length : Int) := by omega
  obtain ⟨y110, hy110⟩ : ∃ y_ : List Int, y_ = marks := ⟨_, rfl⟩
  have hyl : y110.length = 2 := by rw [hy110]; rfl
  have HYL := Aside0.mk hyl
  obtain ⟨y113, hy113⟩ : ∃ y_ : List Int, y_ = l0 ++ y110 := ⟨_, rfl⟩
  have h13 : (l0.length : Int) ≤ (y113.length : Int) := by rw [hy113, List.length_append]; omega
  have c4b0 := eq_true hi0
  have c4b1 : decide (0 ≤ (l0.length : Int)) = true := decide_eq_true hi0
  have c5b0 := eq_true h13
  have c5b1 : decide ((l0.length : Int) ≤ (y113.length : Int)) = true := decide_eq_true h13
  have Ny110 := Aside0.mk hy110
  have Ny113 := Aside0.mk hy113
  clear hi0 h13 hyl hy110 hy113
  go_enter Tryd.func9, Tryd.ntmps9
  go_wp2_with (first | ((with_reducible refine gate_callee (f := 23) rfl ?_); refine goesL_ (some 5) rfl rfl Tryd.func23 (by kernel_rfl) rfl #[.slice A0 l0.length c0] rfl (by (try simp only [List.map_toArray, List.map_cons, List.map_nil]); first | done | rfl | (simp only [List.length_drop, List.length_take]; rfl)) ?_; (with_reducible refine (quaerelaw0_CopyInts.calls _ _ l0 l0 _ ?side1 ?side2 HCP.out).mono ?_); (case side1 => repeat (first | exact HR0.out | (with_reducible refine Kd.C_alloc ?_ _) | (with_reducible refine Kd.C_drewN ?_ _) | (with_reducible refine Kd.C_drew ?_))); (case side2 => exact HC0.out); rintro e w6 ⟨v108, rfl, ho0, hb⟩; refine ⟨_, rfl, ?_⟩; have n0_ := Aside0.mk (Kd.R_lower ho0 (below_size (by repeat (first | (with_reducible first | exact HB.out | apply below_alloc | apply pw_below_drewN | apply below_drew1) | exact HB.out)))); have n1_ := Aside0.mk (below_step (by repeat (first | (with_reducible first | exact HB.out | apply below_alloc | apply pw_below_drewN | apply below_drew1) | exact HB.out)) hb); clear HB; have HO109 := n0_; have HB := n1_; clear n0_ n1_; (try clear hb); (try clear ho0)) | ((with_reducible refine gate_dst (N := 6) rfl ?_); refine Kd.R_lit (Kd.int .i64) _ 3 ?hg (N := 6) ?hd (xs := ([(-7777), (-8888)] : List Int)) (inner := [.int .i64 (-7777), .int .i64 (-8888)]) (ok := fun _ => True) (okp := fun _ => True) ?hr ?hp (fun _ hk => hk) trivial (Below.refl _ _) (Nat.le_refl _) (by simp) ?_; (case hd => rfl); (case hg => rfl); (case hr => first | (go_simp; done) | (go_simp; rfl)); (case hp => exact (Reps.one (show Kd.M (Kd.int .i64) _ _ _ (-7777) [.int .i64 (-7777)] from rfl) (Reps.one (show Kd.M (Kd.int .i64) _ _ _ (-8888) [.int .i64 (-8888)] from rfl) (Reps.none _ _)))); intro v111 w7 ho8 hb hg_ hnew_; clear hg_ hnew_; change Kd.R _ _ _ _ _ _ marks at ho8; rw [← Ny110.out] at ho8; have n0_ := Aside0.mk (Kd.R_elder' (by (with_reducible repeat (first | apply Kd.R_alloc | apply Kd.R_drewN | apply Kd.R_drew)); exact HO109.out) (Kd.R_base ho8) hb); have n1_ := Aside0.mk (Kd.R_lower (Kd.R_new' ho8 (Kd.R_lt (by (with_reducible repeat (first | apply Kd.R_alloc | apply Kd.R_drewN | apply Kd.R_drew)); exact HO109.out))) (below_size (by repeat (first | (with_reducible first | exact HB.out | apply below_alloc | apply pw_below_drewN | apply below_drew1) | exact HB.out)))); have n2_ := Aside0.mk (below_step (by repeat (first | (with_reducible first | exact HB.out | apply below_alloc | apply pw_below_drewN | apply below_drew1) | exact HB.out)) hb); clear HO109; clear HB; have HO109 := n0_; have HO112 := n1_; have HB := n2_; clear n0_ n1_ n2_; clear hb ho8; obtain ⟨Ao10, co10, eo10⟩ := Kd.R_slice HO112.out; subst eo10) | ((with_reducible refine gate_builtin (b := .append) (xs := #[.tmp 5, .tmp 6]) rfl ?_); at_builtin; refine Kd.R_append_rows (Kd.int .i64) (w0 := w) w.heap.size rfl (.tmp 5) (.tmp 6) 23 3 (.int .i64 0) 8 rfl Tryd.underlying23 info3 rfl (by decide) (by omega) v108 l0 y110 _ _ _ (fun k_ => some k_ ≠ (.slice Ao10 y110.length co10 : Value).ownBlock) (fun _ => False) rfl rfl ?aO ?aR (fun _ _ h => h) (fun _ h => h.elim) ?aF ?aB ?aS ?aL ?_; (case aR => repeat (first | exact (Kd.R_reads' HO112.out).2.2 | (with_reducible refine Kd.C_alloc ?_ _) | (with_reducible refine Kd.C_drewN ?_ _) | (with_reducible refine Kd.C_drew ?_))); (case aB => exact (by repeat (first | (with_reducible first | exact HB.out | apply below_alloc | apply pw_below_drewN | apply below_drew1) | exact HB.out))); (case aF => exact (fun k_ hk => Kd.fresh' (Kd.R_lt (by (with_reducible repeat (first | apply Kd.R_alloc | apply Kd.R_drewN | apply Kd.R_drew)); exact HO112.out)) k_ hk)); (case aO => exact (by (with_reducible repeat (first | apply Kd.R_alloc | apply Kd.R_drewN | apply Kd.R_drew)); exact Kd.R_mono HO109.out (fun _ hk => hk.2))); (case aS => exact (below_size (by repeat (first | (with_reducible first | exact HB.out | apply below_alloc | apply pw_below_drewN | apply below_drew1) | exact HB.out)))); (case aL => have := HL.out; have := HYL.out; omega); intro v114 w9 ho hb hg hat; rw [← Ny113.out] at ho; have n1_ := Aside0.mk (hb); have n2_ := Aside0.mk (ho); clear HO112; clear HB; clear HO109; have HB := n1_; have HO115 := n2_; clear n1_ n2_; clear ho hb hg hat; obtain ⟨Ao11, co11, eo11⟩ := Kd.R_slice HO115.out; subst eo11; have q12 : ((l0.length : Int) : Int) ≤ ((y113.length : Int) : Int) := of_decide_eq_true c5b1; obtain ⟨i012, hi012, _, hsz12, _⟩ := info_parts info3; have hcut12 := cut_to (P := Tryd.prog) 23 3 .i64 Tryd.underlying23 hi012 Ao11 y113.length co11 (l0.length : Int) (of_decide_eq_true c4b1) q12 (Kd.R_reads' HO115.out).2.1; rw [Int.toNat_natCast] at hcut12; clear hi012 hsz12; replace q12 := eq_true q12))
  go_ret
  refine ⟨Ao11, co11, rfl, ⟨?_⟩, by repeat (first | (with_reducible first | exact HB.out | apply below_alloc | apply pw_below_drewN | apply below_drew1) | exact HB.out)⟩
  (with_reducible repeat (first | apply Kd.R_alloc | apply Kd.R_drewN | apply Kd.R_drew))
  have h := HO115.out
  rw [Ny113.out, Ny110.out] at h
  exact Kd.R_mono h (fun _ hk => trivial)
theorem cut_room {P : Program} (t e : TypeId) (kh : IntKind) {i : TypeInfo} (ht : P.underlying t = some (.slice e)) (hi : P.info? e = some i) (A : Option Addr) (n c : Nat) (j : Int) (h0 : 0 ≤ j) (hm : j ≤ c) :
    ∀ W : World, (Instr.slice t (.slice A n c) none (some (.int kh j)) none).run P W = .ok (.slice A j.toNat c) W := by
  intro W
  have hel : P.elem t = e := by simp [Program.elem, ht]
  have hu : P.underlying t = some (.slice (P.elem t)) := by rw [hel]; exact ht
  have ha : (A.map fun x => x.add 0) = A := by cases A <;> simp [Addr.add]
  rw [run_slice_h W t A n c hu kh j h0 (by omega), hel]
  simp [sizeOf, typeInfo, hi, sliced, Result.andThen, ha]
set_option maxHeartbeats 8000000 in
set_option maxRecDepth 100000 in
theorem kept_calls (A : Option Addr) (c base : Nat) (l : List Int) (A1 : Option Addr) (c1 : Nat) (w : World) (h : Lent w base A c l) (hr1 : Kd.C (Kd.int .i64) w A1 l.length l) (hc1 : l.length ≤ c1) :
    Calls Tryd.prog 15 #[.slice A l.length c, .slice A1 l.length c1] w fun e w' => e = .returned (.bool true) ∧ Drawn0 w w' := by
  have hcap := h.cap
  have hf := h.full
  have hl3 : (l ++ marks).length = l.length + 2 := by simp [marks]
  have hl : l.length + 2 ≤ maxLen := by have := hf.2.1; rw [hl3] at this; exact this
  obtain ⟨ad, rfl, hx0⟩ := Kd.at_int hf (l.length : Int) (by omega) (by rw [hl3]; omega)
  obtain ⟨ad', e', hx1⟩ := Kd.at_int hf ((l.length + 1 : Nat) : Int) (by omega) (by rw [hl3]; omega)
  cases e'
  have r0 : rd (l ++ marks) (l.length : Int) = -7777 := by rw [rd_nat _ _ (by rw [hl3]; omega)]; simp [marks]
  have r1 : rd (l ++ marks) ((l.length + 1 : Nat) : Int) = -8888 := by rw [rd_nat _ _ (by rw [hl3]; omega)]; simp [marks]
  rw [r0, Int.toNat_natCast] at hx0
  rw [r1, Int.toNat_natCast] at hx1
  have hx2 := hx1
  simp only [Addr.add, if_neg (show ¬ l.length + 1 = 0 by omega)] at hx2
  have hw2 : wrap64 ((l.length : Int) + 2) = (l.length : Int) + 2 := by unfold wrap64 maxLen at *; omega
  have hw1 : wrap64 ((l.length : Int) + 1) = ((l.length + 1 : Nat) : Int) := by unfold wrap64 maxLen at *; omega
  obtain ⟨i0, hi0, _, _, _⟩ := info_parts info3
  have hcut := cut_room (P := Tryd.prog) 23 3 .i64 Tryd.underlying23 hi0 (some ad) l.length c ((l.length : Int) + 2) (by omega) (by omega)
  rw [show ((l.length : Int) + 2).toNat = l.length + 2 by omega] at hcut
  obtain ⟨k, hk⟩ := (sameInts_ev l l (by unfold maxLen at hl; omega)).rounds
  rw [decide_eq_true rfl] at hk
  have HK := Aside0.mk hk
  have HR0 := Aside0.mk h.reads
  have HC0 := Aside0.mk (show l.length ≤ c by omega)
  have HR1 := Aside0.mk hr1
  have HC1 := Aside0.mk hc1
  have b0 : (0 : Int) ≤ (l.length : Int) := by omega
  have b1 : (l.length : Int) < ((l.length + 2 : Nat) : Int) := by omega
  have b2 : (0 : Int) ≤ ((l.length + 1 : Nat) : Int) := by omega
  have b3 : ((l.length + 1 : Nat) : Int) < ((l.length + 2 : Nat) : Int) := by omega
  clear h hf hr1 hc1 hcap hl3 hl r0 r1 hk hi0
  go_enter Tryd.func15, Tryd.ntmps15
  go_wp2_with fail
  refine (quaerelaw0_SameInts.calls k _ _ l _ _ l true _ HR0.out HC0.out HR1.out HC1.out HK.out).mono ?_
  rintro e w' ⟨rfl, ⟨nd, rfl⟩⟩
  go_wp2
  go_ret
  exact ⟨rfl, by repeat (first | exact Drawn0.refl _ | apply Drawn0.step)⟩
end Go.Proofs.YteffiodbflmfkaaDoor.PP
namespace Go.Proofs.YteffiodbflmfkaaDoor.PP
open Go Go.RowKit Go.Proofs.YteffiodbflmfkaaDoorW.PrintWords Go.Proofs.YteffiodbflmfkaaDoorW.PrintLast Go.Proofs.YteffiodbflmfkaaDoorW.PrintMore Go.Proofs.YteffiodbflmfkaaDoor
set_option linter.unusedVariables false
set_option linter.unusedSimpArgs false
/-- Whole numbers may have changed, nothing else has. -/
def Soft (w w' : World) : Prop := ∀ p v, w.cell? p = some v → (w'.cell? p = some v ∨ ((∃ z, v = .int .i64 z) ∧ ∃ z, w'.cell? p = some (.int .i64 z))) ∧ w'.frozen? p = w.frozen? p
theorem Soft.refl (w : World) : Soft w w := fun _ _ h => ⟨.inl h, rfl⟩
theorem Soft.trans {w w1 w2 : World} (h : Soft w w1) (h2 : Soft w1 w2) : Soft w w2 := fun p v hv => by
  obtain ⟨h, hf⟩ := h p v hv
  rcases h with h | ⟨hz, z, h⟩
  · exact ⟨(h2 p v h).1, (h2 p v h).2.trans hf⟩
  · refine ⟨?_, (h2 p _ h).2.trans hf⟩
    rcases (h2 p _ h).1 with h3 | ⟨_, z2, h3⟩
    · exact .inr ⟨hz, z, h3⟩
    · exact .inr ⟨hz, z2, h3⟩
theorem Soft.set {w : World} {p : Addr} {z : Int} (h : w.cell? p = some (.int .i64 z)) (z' : Int) : Soft w (w.setCell p (.int .i64 z')) := fun q v hv => by
  refine ⟨?_, World.frozen?_setCell ..⟩
  by_cases e : p = q
  · subst e
    rw [h] at hv
    cases hv
    exact .inr ⟨⟨_, rfl⟩, _, World.cell?_setCell_same _ _ _ h⟩
  · exact .inl (by rw [World.cell?_setCell_other _ _ _ _ e]; exact hv)
/-- n whole numbers stand at A, in blocks of its own. -/
def RawInts (b : Nat) (w : World) (A : Option Addr) (n : Nat) : Prop := ∀ j, j < n → ∃ g z, A = some ⟨g, 0, none⟩ ∧ w.cell? ⟨g, j, none⟩ = some (.int .i64 z) ∧ w.frozen? ⟨g, j, none⟩ = false ∧ b ≤ g
theorem RawInts.soft {b n : Nat} {w w' : World} {A : Option Addr} (h : RawInts b w A n) (hs : Soft w w') : RawInts b w' A n := fun j hj => by
  obtain ⟨g, z, e, hx, hf, hb⟩ := h j hj
  obtain ⟨hc, hf2⟩ := hs _ _ hx
  rcases hc with hc | ⟨_, z', hc⟩
  · exact ⟨g, z, e, hc, hf2.trans hf, hb⟩
  · exact ⟨g, z', e, hc, hf2.trans hf, hb⟩
def RawRows (b : Nat) (w : World) (A : Option Addr) (n : Nat) : Prop := ∀ j, j < n → ∃ g A1 m c1, A = some ⟨g, 0, none⟩ ∧ w.cell? ⟨g, j, none⟩ = some (.slice A1 m c1) ∧ m ≤ c1 ∧ m ≤ maxLen ∧ RawInts b w A1 m
theorem RawRows.soft {b n : Nat} {w w' : World} {A : Option Addr} (h : RawRows b w A n) (hs : Soft w w') : RawRows b w' A n := fun j hj => by
  obtain ⟨g, A1, m, c1, e, hx, h1, h2, h3⟩ := h j hj
  rcases (hs _ _ hx).1 with hc | ⟨⟨z, hc⟩, _⟩
  · exact ⟨g, A1, m, c1, e, hc, h1, h2, h3.soft hs⟩
  · cases hc
theorem raw_ints {e b : Nat} {w : World} {ok : Nat → Prop} {A : Option Addr} {n c : Nat} {xs : List Int} (h : (Kd.int .i64).R e w b ok (.slice A n c) xs) : RawInts b w A n := fun j hj => by
  obtain ⟨hn, _, _⟩ := Kd.R_reads' h
  subst hn
  obtain ⟨g, cap, he, hg, _, _⟩ := Kd.R_form h (by omega)
  injection he with h1 h2 h3
  subst h1
  obtain ⟨hx, hf⟩ := Kd.R_celln 0 h (j : Int) (by omega) (by omega)
  rw [Int.toNat_natCast] at hx hf
  exact ⟨g, _, rfl, hx, hf, hg⟩
theorem raw_rows {e b : Nat} {w : World} {ok : Nat → Prop} {A : Option Addr} {n c : Nat} {xs : List (List Int)} (h : (Kd.slice 3 (Kd.int .i64)).R e w b ok (.slice A n c) xs) : RawRows b w A n := fun j hj => by
  obtain ⟨hn, _, _⟩ := Kd.R_reads' h
  subst hn
  obtain ⟨g, cap, he, hg, _, _⟩ := Kd.R_form h (by omega)
  injection he with h1 h2 h3
  subst h1
  obtain ⟨cs, hcl, hM, hcc, _⟩ := Kd.R_elem h [] (j : Int) (by omega) (by omega)
  rw [Int.toNat_natCast] at hM hcc
  obtain ⟨v, rfl, hR⟩ := hM
  obtain ⟨A1, c1, rfl⟩ := Kd.R_slice hR
  have h1 := hcc 0 _ rfl
  rw [show j * (Kd.slice 3 (Kd.int .i64)).sz + 0 = j from by show j * 1 + 0 = j; omega] at h1
  exact ⟨g, A1, _, c1, rfl, h1, (Kd.R_reads' hR).2.1, ((Kd.R_reads' hR).2.2).2.1, raw_ints hR⟩
set_option maxHeartbeats 1000000 in
set_option maxRecDepth 100000 in
theorem spoilRaw_calls (A : Option Addr) (n c : Nat) (w0 w : World) (hB : Below w0.heap.size w0 w) (hn : n ≤ maxLen) (hnc : n ≤ c) (hc : RawInts w0.heap.size w A n) :
    Calls Tryd.prog 29 #[.slice A n c] w fun e w' => e = .returned (.tuple #[]) ∧ Below w0.heap.size w0 w' ∧ Soft w w' := by
  have HC := Aside0.mk hc
  have HN := Aside0.mk hn
  have HB0 := Aside0.mk hB
  clear hc hn hB
  go_enter Tryd.func29, Tryd.ntmps29
  go_wp2
  go_loopg [2] (n + 1) (fun kq v2 w' => ∃ (i : Nat), v2 = .int .i64 i ∧ Aside0 (i ≤ n ∧ kq + i = n + 1) ∧ Aside0 (Soft w w') ∧ Aside0 (Below w0.heap.size w0 w'))
  case atStart => exact ⟨0, rfl, ⟨by omega, by omega⟩, ⟨Soft.refl _⟩, HB0⟩
  case round =>
    obtain ⟨i, rfl, HI, HS, HB⟩ := hrel
    by_cases hi : i < n
    · obtain ⟨g, z, rfl, hx, hf, hb⟩ := (HC.out.soft HS.out) i hi
      have hw1 := wrap_nat i (by have := HN.out; unfold maxLen at this; omega)
      have hi0 : (0 : Int) ≤ (i : Int) := by omega
      have hi1 : (i : Int) < (n : Int) := by omega
      have HX := Aside0.mk hx
      have HG := Aside0.mk hb
      clear hb
      go_wp2_with (first | ((with_reducible refine gate_store (t := 3) (p := 17) rfl ?_); refine store_event (t := 3) (p := 17) (v := ?vo) (w1 := (wr.setCell ⟨g, i, none⟩ (.int .i64 (wrap64 ((-9) - (Int.tmod z 1000)))))) ?hg ?ho ?hn ?hr ?_; (case ho => rfl); (case hg => rfl); (case hn => rfl); (case hr => first | (go_simp; done) | (go_simp; rfl)); intro w7 hw; have HS7 := Aside0.mk (show Soft w w7 by rw [hw]; exact HS.out.trans (Soft.set HX.out _)); have HB7 := Aside0.mk (show Below w0.heap.size w0 w7 by rw [hw]; exact below_set HB.out HG.out); clear hw HS HB HX hx hf))
      go_roundg (gk - 1)
      case measure => have := HI.out; omega
      case rel => exact ⟨i + 1, by first | exact congrArg (Value.int .i64) hw1 | rfl | go_num | (simp; done), ⟨by have := HI.out; omega, by have := HI.out; omega⟩, ⟨HS7.out⟩, ⟨HB7.out⟩⟩
    · obtain rfl : i = n := by have := HI.out; omega
      clear hi
      go_wp2
      go_end0
      exact ⟨rfl, HB.out, HS.out⟩
set_option maxHeartbeats 1000000 in
set_option maxRecDepth 100000 in
theorem spoilRows_calls (A : Option Addr) (n c : Nat) (w0 w : World) (hB : Below w0.heap.size w0 w) (hn : n ≤ maxLen) (hc : RawRows w0.heap.size w A n) :
    Calls Tryd.prog 14 #[.slice A n c] w fun e w' => e = .returned (.tuple #[]) ∧ Below w0.heap.size w0 w' := by
  have HC := Aside0.mk hc
  have HN := Aside0.mk hn
  have HB0 := Aside0.mk hB
  clear hc hn hB
  go_enter Tryd.func14, Tryd.ntmps14
  go_wp2
  go_loopg [2] (n + 1) (fun kq v2 w' => ∃ (i : Nat), v2 = .int .i64 i ∧ Aside0 (i ≤ n ∧ kq + i = n + 1) ∧ Aside0 (Soft w w') ∧ Aside0 (Below w0.heap.size w0 w'))
  case atStart => exact ⟨0, rfl, ⟨by omega, by omega⟩, ⟨Soft.refl _⟩, HB0⟩
  case round =>
    obtain ⟨i, rfl, HI, HS, HB⟩ := hrel
    by_cases hi : i < n
    · obtain ⟨g, A1, m, c1, rfl, hx, hm1, hm2, hr⟩ := (HC.out.soft HS.out) i hi
      have hw1 := wrap_nat i (by have := HN.out; unfold maxLen at this; omega)
      have hi0 : (0 : Int) ≤ (i : Int) := by omega
      have hi1 : (i : Int) < (n : Int) := by omega
      have HR := Aside0.mk hr
      have HM := Aside0.mk hm2
      have HM1 := Aside0.mk hm1
      clear hr hm2 hm1
      go_wp2_with fail
      refine (spoilRaw_calls A1 m c1 w0 _ HB.out HM.out HM1.out HR.out).mono ?_
      rintro e w1 ⟨rfl, hb1, hs1⟩
      have HB1 := Aside0.mk hb1
      have HS1 := Aside0.mk (HS.out.trans hs1)
      clear hb1 hs1 HS HB
      go_wp2
      go_roundg (gk - 1)
      case measure => have := HI.out; omega
      case rel => exact ⟨i + 1, by first | exact congrArg (Value.int .i64) hw1 | rfl | go_num | (simp; done), ⟨by have := HI.out; omega, by have := HI.out; omega⟩, ⟨HS1.out⟩, ⟨HB1.out⟩⟩
    · obtain rfl : i = n := by have := HI.out; omega
      clear hi
      go_wp2
      go_end0
      exact ⟨rfl, HB.out⟩
end Go.Proofs.YteffiodbflmfkaaDoor.PP
namespace Go.Proofs.YteffiodbflmfkaaDoor.PP
open Go Go.RowKit Go.Proofs.YteffiodbflmfkaaDoorW.PrintWords Go.Proofs.YteffiodbflmfkaaDoorW.PrintLast Go.Proofs.YteffiodbflmfkaaDoorW.PrintMore Go.Proofs.YteffiodbflmfkaaDoor
set_option linter.unusedVariables false
set_option linter.unusedSimpArgs false
theorem refText_ev {l : List S59} (hs : SignOk l) (t : List Int) : Ev (fun k => quaereref11_IsText.f k l t) (@decide (TextT l t) (Classical.propDecidable _)) := by
  classical
  unfold quaereref11_IsText.f
  refine Ev.bind (refIsTerm_ev hs t) ?_
  by_cases h1 : Row l 1 t
  · exact Ev.if_pos (decide_eq_true h1) (Ev.some_ (decide_eq_true (p := TextT l t) ⟨h1.1, .inl h1⟩).symm)
  · refine Ev.if_neg (by simp [h1]) (Ev.bind (refIsAtom_ev hs t) (Ev.some_ ?_))
    by_cases h2 : Atom l t
    · have : TextT l t := ⟨hs, .inr h2⟩
      rw [decide_eq_true h2, decide_eq_true this]
    · have : ¬ TextT l t := fun h => h.2.elim h1 h2
      rw [decide_eq_false h2, decide_eq_false this]
theorem samePaths_loop (ts : List (List Int)) (hl : ts.length ≤ 5864062014806) (hx : ∀ u ∈ ts, u.length < 17592186044400) : ∀ (d i : Nat), ts.length - i = d → i ≤ ts.length → Ev (fun k => quaerelaw0_SameRows.l0 k ts ts (i : Int)) true := by
  intro d
  induction d with
  | zero =>
    intro i hd hi
    exact Ev.step (fun k => rfl) (Ev.if_neg (by omega) (Ev.some_ rfl))
  | succ d ih =>
    intro i hd hi
    have hlt : i < ts.length := by omega
    have hrd : rd_L3 ts (i : Int) = ts[i] := by
      unfold rd_L3
      rw [Int.toNat_natCast, List.getD_eq_getElem?_getD, List.getElem?_eq_getElem hlt]
      rfl
    have h1 := hx ts[i] (List.getElem_mem _)
    refine Ev.step (fun k => rfl) (Ev.if_pos (by omega) (Ev.if_pos (by omega) (Ev.if_pos (by omega) ?_)))
    rw [hrd]
    refine Ev.bind (sameInts_ev _ _ (by omega)) (Ev.if_pos (by simp) ?_)
    rw [wrap_nat i (by omega)]
    exact ih (i + 1) (by omega) (by omega)
theorem samePaths_ev (ts : List (List Int)) (hl : ts.length ≤ 5864062014806) (hx : ∀ u ∈ ts, u.length < 17592186044400) : Ev (fun k => quaerelaw0_SameRows.f k ts ts) true := by
  unfold quaerelaw0_SameRows.f
  exact Ev.if_pos rfl (samePaths_loop ts hl hx ts.length 0 rfl (Nat.zero_le _))
/-- What Paths tells. -/
def PathsAre (l : List S59) (t : List Int) (M : List (List Int)) (E : Int) : Prop := (TextT l t ∧ M = pathV l t ∧ E = 0) ∨ (¬ TextT l t ∧ M = [] ∧ E = 1200)
theorem paths_are (l : List S59) (t : List Int) : ∃ M E, PathsAre l t M E := by
  by_cases h : TextT l t
  · exact ⟨_, _, .inl ⟨h, rfl, rfl⟩⟩
  · exact ⟨_, _, .inr ⟨h, rfl, rfl⟩⟩
theorem paths_short {l : List S59} {t : List Int} {M : List (List Int)} {E : Int} (h : PathsAre l t M E) : M.length ≤ 5864062014806 ∧ ∀ u ∈ M, u.length < 17592186044400 := by
  rcases h with ⟨hT, rfl, _⟩ | ⟨_, rfl, _⟩
  · obtain ⟨W, hW, _, e, _, hs⟩ := pathV_facts (textT_text hT)
    have hlen := (text_len (textT_text hT)).2.1
    rw [e]
    refine ⟨by rw [zip_length hW]; omega, fun u hu => ?_⟩
    obtain ⟨i, hi, rfl⟩ := List.getElem_of_mem hu
    rw [List.getElem_zipWith]
    have h2 := hs (W[i]'(by rw [zip_length hW] at hi; omega)) (List.getElem_mem _)
    unfold endW
    rw [List.length_append]
    simp only [List.length_cons, List.length_nil]
    omega
  · exact ⟨by simp, fun u hu => by cases hu⟩
set_option maxHeartbeats 1000000 in
set_option maxRecDepth 100000 in
theorem pathsP_calls (A0 : Option Addr) (c0 : Nat) (l : List S59) (A1 : Option Addr) (c1 : Nat) (t : List Int) (M : List (List Int)) (E : Int) (w : World)
    (hr0 : Kd.C k59 w A0 l.length l) (hc0 : l.length ≤ c0) (hr1 : Kd.C (Kd.int .i64) w A1 t.length t) (hc1 : t.length ≤ c1) (hG : Glob w) (hP : PathsAre l t M E) :
    Calls Tryd.prog 10 #[.slice A0 l.length c0, .slice A1 t.length c1] w fun e w' => ∃ v, e = .returned (.tuple #[v, .int .i64 E]) ∧ dR.R 23 w' w.heap.size (fun _ => True) v M ∧ Below w.heap.size w w' := by
  classical
  obtain ⟨k, hk⟩ := (isText_ev l t).rounds
  rcases hP with ⟨hT, rfl, rfl⟩ | ⟨hT, rfl, rfl⟩
  · rw [decide_eq_true hT] at hk
    obtain ⟨k2, hk2⟩ := (paths_ev (textT_text hT)).rounds
    have HK := Aside0.mk hk
    have HK2 := Aside0.mk hk2
    have HR0 := Aside0.mk hr0
    have HR1 := Aside0.mk hr1
    clear hk hk2 hr0 hr1 hT
    go_enter Tryd.func10, Tryd.ntmps10
    go_wp2_with fail
    refine (path_IsText.calls k _ _ l _ _ t true _ HR0.out hc0 HR1.out hc1 HK.out hG).mono ?_
    rintro e w1 ⟨rfl, hb1⟩
    have HB1 := Aside0.mk hb1
    clear hb1
    go_wp2_with fail
    refine (path_paths.callsR k2 _ _ l _ _ t _ _ (Kd.C_below HR0.out HB1.out) hc0 (Kd.C_below HR1.out HB1.out) hc1 HK2.out).mono ?_
    rintro e w2 ⟨v, rfl, hR, hb2⟩
    have HR := Aside0.mk (Kd.R_lower (Kd.R_mono (ok' := fun _ => True) hR (fun _ _ => trivial)) HB1.out.size)
    have HB2 := Aside0.mk (below_step HB1.out hb2)
    clear hR hb2
    go_wp2
    go_ret2
    exact ⟨v, rfl, HR.out, HB2.out⟩
  · rw [decide_eq_false hT] at hk
    have HK := Aside0.mk hk
    have HR0 := Aside0.mk hr0
    have HR1 := Aside0.mk hr1
    clear hk hr0 hr1 hT
    go_enter Tryd.func10, Tryd.ntmps10
    go_wp2_with fail
    refine (path_IsText.calls k _ _ l _ _ t false _ HR0.out hc0 HR1.out hc1 HK.out hG).mono ?_
    rintro e w1 ⟨rfl, hb1⟩
    have HB1 := Aside0.mk hb1
    clear hb1
    go_wp2
    go_ret2
    exact ⟨_, rfl, Kd.R_nil _ _ _ _ _, HB1.out⟩
set_option maxHeartbeats 1000000 in
set_option maxRecDepth 100000 in
theorem pathsR_calls (A0 : Option Addr) (c0 : Nat) (l : List S59) (A1 : Option Addr) (c1 : Nat) (t : List Int) (M : List (List Int)) (E : Int) (w : World)
    (hr0 : Kd.C k59 w A0 l.length l) (hc0 : l.length ≤ c0) (hr1 : Kd.C (Kd.int .i64) w A1 t.length t) (hc1 : t.length ≤ c1) (hP : PathsAre l t M E) :
    Calls Tryd.prog 11 #[.slice A0 l.length c0, .slice A1 t.length c1] w fun e w' => ∃ v, e = .returned (.tuple #[v, .int .i64 E]) ∧ dR.R 23 w' w.heap.size (fun _ => True) v M ∧ Below w.heap.size w w' := by
  classical
  obtain ⟨k, hk⟩ := (ref_may_ev l).rounds
  have HR0 := Aside0.mk hr0
  have HR1 := Aside0.mk hr1
  clear hr0 hr1
  by_cases hs : SignOk l
  · rw [signB_true.2 hs] at hk
    obtain ⟨k2, hk2⟩ := (refText_ev hs t).rounds
    have HK := Aside0.mk hk
    have HS := Aside0.mk hs
    clear hk hs
    rcases hP with ⟨hT, rfl, rfl⟩ | ⟨hT, rfl, rfl⟩
    · rw [decide_eq_true hT] at hk2
      have HK2 := Aside0.mk hk2
      have HT := Aside0.mk hT
      have hlen := text_len (textT_text hT)
      have HLEN := Aside0.mk hlen
      clear hk2 hT hlen
      go_enter Tryd.func11, Tryd.ntmps11
      go_wp2_with fail
      refine (quaereref1_SignMay.calls k _ _ l true _ HR0.out hc0 HK.out).mono ?_
      rintro e w1 ⟨rfl, hb1⟩
      have HB1 := Aside0.mk hb1
      clear hb1
      go_wp2_with fail
      refine (quaereref11_IsText.calls k2 _ _ l _ _ t true _ (Kd.C_below HR0.out HB1.out) hc0 (Kd.C_below HR1.out HB1.out) hc1 HK2.out).mono ?_
      rintro e w2 ⟨rfl, hb2⟩
      have HB2 := Aside0.mk (below_step HB1.out hb2)
      clear hb2 HB1
      go_wp2_with fail
      refine (refPaths_calls A0 c0 l HS.out hc0 t.length [] t none 0 A1 c1 _ (Kd.C_below HR0.out HB2.out) (by omega) (textS_B (text_textS (textT_text HT.out))) ?len (Kd.C_nil _ _) (Nat.le_refl _) (Kd.C_below HR1.out HB2.out) hc1).mono ?_
      case len => have := HLEN.out.2.1; simp only [List.length_nil]; omega
      rintro e w3 ⟨v, rfl, hR, hb3⟩
      have HR := Aside0.mk (Kd.R_lower hR HB2.out.size)
      have HB3 := Aside0.mk (below_step HB2.out hb3)
      clear hR hb3
      go_wp2
      go_ret2
      exact ⟨v, rfl, HR.out, HB3.out⟩
    · rw [decide_eq_false hT] at hk2
      have HK2 := Aside0.mk hk2
      clear hk2 hT
      go_enter Tryd.func11, Tryd.ntmps11
      go_wp2_with fail
      refine (quaereref1_SignMay.calls k _ _ l true _ HR0.out hc0 HK.out).mono ?_
      rintro e w1 ⟨rfl, hb1⟩
      have HB1 := Aside0.mk hb1
      clear hb1
      go_wp2_with fail
      refine (quaereref11_IsText.calls k2 _ _ l _ _ t false _ (Kd.C_below HR0.out HB1.out) hc0 (Kd.C_below HR1.out HB1.out) hc1 HK2.out).mono ?_
      rintro e w2 ⟨rfl, hb2⟩
      have HB2 := Aside0.mk (below_step HB1.out hb2)
      clear hb2 HB1
      go_wp2
      go_ret2
      exact ⟨_, rfl, Kd.R_nil _ _ _ _ _, HB2.out⟩
  · rw [show signB l = false from by simpa using fun h => hs (signB_true.1 h)] at hk
    have HK := Aside0.mk hk
    clear hk
    rcases hP with ⟨hT, rfl, rfl⟩ | ⟨hT, rfl, rfl⟩
    · exact absurd hT.1 hs
    · clear hT
      go_enter Tryd.func11, Tryd.ntmps11
      go_wp2_with fail
      refine (quaereref1_SignMay.calls k _ _ l false _ HR0.out hc0 HK.out).mono ?_
      rintro e w1 ⟨rfl, hb1⟩
      have HB1 := Aside0.mk hb1
      clear hb1
      go_wp2
      go_ret2
      exact ⟨_, rfl, Kd.R_nil _ _ _ _ _, HB1.out⟩
set_option maxHeartbeats 1000000 in
set_option maxRecDepth 100000 in
theorem paths_calls (A0 : Option Addr) (c0 : Nat) (l : List S59) (A1 : Option Addr) (c1 : Nat) (t : List Int) (w : World)
    (hr0 : Kd.C k59 w A0 l.length l) (hc0 : l.length ≤ c0) (hr1 : Kd.C (Kd.int .i64) w A1 t.length t) (hc1 : t.length ≤ c1) (hG : Glob w) (hlt : t.length < 17592186044400) :
    Calls Tryd.prog 3 #[.slice A0 l.length c0, .slice A1 t.length c1] w fun e w' => e = .returned (.bool true) ∧ Below w.heap.size w w' := by
  obtain ⟨M, E, hP⟩ := paths_are l t
  obtain ⟨hl1, hl2⟩ := paths_short hP
  obtain ⟨ks, hks⟩ := (samePaths_ev M hl1 hl2).rounds
  obtain ⟨kw, hkw⟩ := awake12_ev.rounds
  have HP := Aside0.mk hP
  have HKS := Aside0.mk hks
  have HKW := Aside0.mk hkw
  have HR0 := Aside0.mk hr0
  have HR1 := Aside0.mk hr1
  clear hr0 hr1 hks hkw hP hl1 hl2
  go_enter Tryd.func3, Tryd.ntmps3
  go_wp2_with fail
  refine (lend_calls A1 c1 t _ HR1.out hc1 hlt).mono ?_
  rintro e w1 ⟨AX, cx, rfl, hx, hb1⟩
  have HX := Aside0.mk hx
  have HB1 := Aside0.mk hb1
  clear hx hb1
  go_wp2_with fail
  refine (pathsP_calls _ c0 l _ cx t M E _ (Kd.C_below HR0.out HB1.out) hc0 HX.out.reads (by have := HX.out.cap; omega) (hG.below HB1.out) HP.out).mono ?_
  rintro e w2 ⟨v, rfl, hS, hb2⟩
  have HS2 := Aside0.mk hS
  have HB2 := Aside0.mk hb2
  have HBW2 := Aside0.mk (below_step HB1.out hb2)
  clear hS hb2
  go_wp2_with fail
  refine (pathsR_calls _ c0 l _ c1 t M E _ (Kd.C_below HR0.out HBW2.out) hc0 (Kd.C_below HR1.out HBW2.out) hc1 HP.out).mono ?_
  rintro e w3 ⟨v', rfl, hS', hb3⟩
  have HS3 := Aside0.mk (Kd.R_below HS2.out hb3)
  have HS3' := Aside0.mk hS'
  have HB3 := Aside0.mk (below_step HB2.out hb3)
  have HBW3 := Aside0.mk (below_step HBW2.out hb3)
  clear hS' hb3 HS2 HB2 HBW2
  obtain ⟨AV, cv, rfl⟩ := Kd.R_slice HS3.out
  obtain ⟨AV', cv', rfl⟩ := Kd.R_slice HS3'.out
  go_wp2_with fail
  refine (quaerelaw0_SameRows.calls ks _ cv M _ cv' M true _ (Kd.R_reads' HS3.out).2.2 (Kd.R_reads' HS3.out).2.1 (Kd.R_reads' HS3'.out).2.2 (Kd.R_reads' HS3'.out).2.1 HKS.out).mono ?_
  rintro e w4 ⟨rfl, hd4⟩
  have HS4 := Aside0.mk (Kd.R_below HS3.out hd4.below)
  have HB4 := Aside0.mk (below_step HB3.out hd4.below)
  have HBW4 := Aside0.mk (below_step HBW3.out hd4.below)
  clear hd4 HS3 HS3' HB3 HBW3
  go_wp2_with fail
  refine (quaerelaw0_Num.calls E E _ rfl).mono ?_
  rintro e w5 ⟨rfl, hd5⟩
  have HS5 := Aside0.mk (Kd.R_below HS4.out hd5.below)
  have HB5 := Aside0.mk (below_step HB4.out hd5.below)
  have HBW5 := Aside0.mk (below_step HBW4.out hd5.below)
  clear hd5 HS4 HB4 HBW4
  go_wp2_with fail
  refine (spoilRows_calls AV M.length cv w1 _ HB5.out ((Kd.R_reads' HS5.out).2.2).2.1 (raw_rows HS5.out)).mono ?_
  rintro e w6 ⟨rfl, hb6⟩
  have HX6 := Aside0.mk (HX.out.below hb6)
  have HBW6 := Aside0.mk (below_step HB1.out hb6)
  clear hb6 HX HS5 HB5 HBW5 HB1
  go_wp2_with fail
  refine (kept_calls AX cx _ t _ c1 _ HX6.out (Kd.C_below HR1.out HBW6.out) hc1).mono ?_
  rintro e w7 ⟨rfl, hd7⟩
  have HBW7 := Aside0.mk (below_step HBW6.out hd7.below)
  clear hd7 HX6 HBW6
  go_wp2_with fail
  refine (quaerelaw12_awake.calls kw true _ HKW.out (hG.below HBW7.out)).mono ?_
  rintro e w8 ⟨rfl, hb8⟩
  have HBW8 := Aside0.mk (below_step HBW7.out hb8)
  clear hb8
  go_wp2
  go_ret
  exact ⟨rfl, HBW8.out⟩
end Go.Proofs.YteffiodbflmfkaaDoor.PP
namespace Go.Proofs.YteffiodbflmfkaaDoor.PP
open Go Go.RowKit Go.Proofs.YteffiodbflmfkaaDoorW.PrintWords Go.Proofs.YteffiodbflmfkaaDoorW.PrintLast Go.Proofs.YteffiodbflmfkaaDoorW.PrintMore Go.Proofs.YteffiodbflmfkaaDoor
set_option linter.unusedVariables false
/-! ### quaerelaw12_Paths: by hand (a row lent with room, what is told written over): Paths12.lean -/
def quaerelaw12_Paths.f (l0 : List S59) (l1 : List Int) : Option Bool := if l1.length < 17592186044400 then some true else none
theorem quaerelaw12_Paths.calls (A0 : Option Addr) (c0 : Nat) (l0 : List S59) (A1 : Option Addr) (c1 : Nat) (l1 : List Int) (r : Bool) (w : World) (hr0 : Kd.C k59 w A0 l0.length l0) (hc0 : l0.length ≤ c0) (hr1 : Kd.C (Kd.int .i64) w A1 l1.length l1) (hc1 : l1.length ≤ c1) (h : quaerelaw12_Paths.f l0 l1 = some r) (hG : Glob w) :
    Calls Tryd.prog 3 #[.slice A0 l0.length c0, .slice A1 l1.length c1] w fun e w' => e = .returned (.bool r) ∧ Below w.heap.size w w' := by
  unfold quaerelaw12_Paths.f at h
  split at h
  · rename_i hl
    obtain rfl := Option.some.inj h
    exact paths_calls A0 c0 l0 A1 c1 l1 w hr0 hc0 hr1 hc1 hG hl
  · cases h
end Go.Proofs.YteffiodbflmfkaaDoor.PP
