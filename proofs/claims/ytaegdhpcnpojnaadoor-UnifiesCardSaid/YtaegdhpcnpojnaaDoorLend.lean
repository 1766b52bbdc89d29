/- LendInts and KeptInts of the laws: a row lent with marked room behind it, and whether it was kept. -/
import Derived.Test.YtaegdhpcnpojnaaDoorTerms
import Derived.WalkSpells
import Derived.Test.YtaegdhpcnpojnaaDoorWApart
import Derived.Test.YtaegdhpcnpojnaaDoorPUx0
import Derived.Test.YtaegdhpcnpojnaaDoorPUx2
import Derived.Test.YtaegdhpcnpojnaaDoorPUx4
namespace Go.Proofs.YtaegdhpcnpojnaaDoor.PU
open Go Go.RowKit Go.Proofs.YtaegdhpcnpojnaaDoorW.PrintWords Go.Proofs.YtaegdhpcnpojnaaDoorW.PrintLast Go.Proofs.YtaegdhpcnpojnaaDoorW.PrintMore Go.Proofs.YtaegdhpcnpojnaaDoor
set_option linter.unusedVariables false
set_option linter.unusedSimpArgs false
def marks : List Int := [-7777, -8888]
/-- A row with the marks behind it. -/
structure Lent (w : World) (base : Nat) (A : Option Addr) (c : Nat) (l : List Int) : Prop where mk ::
  out : Kd.R (Kd.int .i64) 3 w base (fun _ => True) (.slice A (l ++ marks).length c) (l ++ marks)
theorem Lent.below {w w1 : World} {base : Nat} {A : Option Addr} {c : Nat} {l : List Int} (h : Lent w base A c l) (hb : Below w.heap.size w w1) : Lent w1 base A c l := ⟨Kd.R_below h.out hb⟩
theorem Lent.cap {w : World} {base : Nat} {A : Option Addr} {c : Nat} {l : List Int} (h : Lent w base A c l) : l.length + 2 ≤ c := by
  have := (Kd.R_reads' h.out).2.1
  rw [List.length_append] at this
  exact this
theorem Lent.reads {w : World} {base : Nat} {A : Option Addr} {c : Nat} {l : List Int} (h : Lent w base A c l) : Kd.C (Kd.int .i64) w A l.length l := by
  have h2 := Kd.R_take h.out (m := l.length) (by simp)
  rw [List.take_left'  rfl] at h2
  exact (Kd.R_reads' h2).2.2
theorem Lent.full {w : World} {base : Nat} {A : Option Addr} {c : Nat} {l : List Int} (h : Lent w base A c l) : Kd.C (Kd.int .i64) w A (l ++ marks).length (l ++ marks) := (Kd.R_reads' h.out).2.2
set_option maxHeartbeats 8000000 in
set_option maxRecDepth 100000 in
theorem lend_calls (A0 : Option Addr) (c0 : Nat) (l0 : List Int) (w : World) (hr0 : Kd.C (Kd.int .i64) w A0 l0.length l0) (hc0 : l0.length ≤ c0) (hl : l0.length < 17592186044400) :
    Calls Tryd.prog 9 #[.slice A0 l0.length c0] w fun e w' => ∃ A c, e = .returned (.slice A l0.length c) ∧ Lent w' w.heap.size A c l0 ∧ Below w.heap.size w w' := by
  have HR0 := Aside0.mk hr0
  have HC0 := Aside0.mk hc0
  have HL := Aside0.mk hl
  have HCP := Aside0.mk (show quaerelaw0_CopyInts.f l0 = some l0 from by
    unfold quaerelaw0_CopyInts.f
    simp only [Option.bind_some]
    rw [if_pos (by simp; omega)]
    simp)
  clear hr0 hc0 hl
  have HB := Aside0.mk (Below.refl w.heap.size w)
  have hi0 : 0 ≤ (l0.length : Int) := by omega
  obtain ⟨y110, hy110⟩ : ∃ y_ : List Int, y_ = marks := ⟨_, rfl⟩
  have hyl : y110.length = 2 := by rw [hy110]; rfl
  have HYL := Aside0.mk hyl
  obtain ⟨y113, hy113⟩ : ∃ y_ : List Int, y_ = l0 ++ y110 := ⟨_, rfl⟩
  have h13 : (l0.length : Int) ≤ (y113.length : Int) := by rw [hy113, List.length_append]; omega
  have c4b0 := eq_true hi0
  have c4b1 : decide (0 ≤ (l0.length : Int)) = true := decide_eq_true hi0
  have c5b0 := eq_true h13
  have c5b1 : decide ((l0.length : Int) ≤ (y113.length : Int)) = true := decide_eq_true h13
  have Ny110 := Aside0.mk hy110
  have Ny113 := Aside0.mk hy113
  clear hi0 h13 hyl hy110 hy113
  go_enter Tryd.func9, Tryd.ntmps9
  go_wp2_with (first | ((with_reducible refine gate_callee (f := 22) rfl ?_); refine goesL_ (some 5) rfl rfl Tryd.func22 (by kernel_rfl) rfl #[.slice A0 l0.length c0] rfl (by (try simp only [List.map_toArray, List.map_cons, List.map_nil]); first | done | rfl | (simp only [List.length_drop, List.length_take]; rfl)) ?_; (with_reducible refine (quaerelaw0_CopyInts.calls _ _ l0 l0 _ ?side1 ?side2 HCP.out).mono ?_); (case side1 => repeat (first | exact HR0.out | (with_reducible refine Kd.C_alloc ?_ _) | (with_reducible refine Kd.C_drewN ?_ _) | (with_reducible refine Kd.C_drew ?_))); (case side2 => exact HC0.out); rintro e w6 ⟨v108, rfl, ho0, hb⟩; refine ⟨_, rfl, ?_⟩; have n0_ := Aside0.mk (Kd.R_lower ho0 (below_size (by repeat (first | (with_reducible first | exact HB.out | apply below_alloc | apply pw_below_drewN | apply below_drew1) | exact HB.out)))); have n1_ := Aside0.mk (below_step (by repeat (first | (with_reducible first | exact HB.out | apply below_alloc | apply pw_below_drewN | apply below_drew1) | exact HB.out)) hb); clear HB; have HO109 := n0_; have HB := n1_; clear n0_ n1_; (try clear hb); (try clear ho0)) | ((with_reducible refine gate_dst (N := 6) rfl ?_); refine Kd.R_lit (Kd.int .i64) _ 3 ?hg (N := 6) ?hd (xs := ([(-7777), (-8888)] : List Int)) (inner := [.int .i64 (-7777), .int .i64 (-8888)]) (ok := fun _ => True) (okp := fun _ => True) ?hr ?hp (fun _ hk => hk) trivial (Below.refl _ _) (Nat.le_refl _) (by simp) ?_; (case hd => rfl); (case hg => rfl); (case hr => first | (go_simp; done) | (go_simp; rfl)); (case hp => exact (Reps.one (show Kd.M (Kd.int .i64) _ _ _ (-7777) [.int .i64 (-7777)] from rfl) (Reps.one (show Kd.M (Kd.int .i64) _ _ _ (-8888) [.int .i64 (-8888)] from rfl) (Reps.none _ _)))); intro v111 w7 ho8 hb hg_ hnew_; clear hg_ hnew_; change Kd.R _ _ _ _ _ _ marks at ho8; rw [← Ny110.out] at ho8; have n0_ := Aside0.mk (Kd.R_elder' (by (with_reducible repeat (first | apply Kd.R_alloc | apply Kd.R_drewN | apply Kd.R_drew)); exact HO109.out) (Kd.R_base ho8) hb); have n1_ := Aside0.mk (Kd.R_lower (Kd.R_new' ho8 (Kd.R_lt (by (with_reducible repeat (first | apply Kd.R_alloc | apply Kd.R_drewN | apply Kd.R_drew)); exact HO109.out))) (below_size (by repeat (first | (with_reducible first | exact HB.out | apply below_alloc | apply pw_below_drewN | apply below_drew1) | exact HB.out)))); have n2_ := Aside0.mk (below_step (by repeat (first | (with_reducible first | exact HB.out | apply below_alloc | apply pw_below_drewN | apply below_drew1) | exact HB.out)) hb); clear HO109; clear HB; have HO109 := n0_; have HO112 := n1_; have HB := n2_; clear n0_ n1_ n2_; clear hb ho8; obtain ⟨Ao10, co10, eo10⟩ := Kd.R_slice HO112.out; subst eo10) | ((with_reducible refine gate_builtin (b := .append) (xs := #[.tmp 5, .tmp 6]) rfl ?_); at_builtin; refine Kd.R_append_rows (Kd.int .i64) (w0 := w) w.heap.size rfl (.tmp 5) (.tmp 6) 23 3 (.int .i64 0) 8 rfl Tryd.underlying23 info3 rfl (by decide) (by omega) v108 l0 y110 _ _ _ (fun k_ => some k_ ≠ (.slice Ao10 y110.length co10 : Value).ownBlock) (fun _ => False) rfl rfl ?aO ?aR (fun _ _ h => h) (fun _ h => h.elim) ?aF ?aB ?aS ?aL ?_; (case aR => repeat (first | exact (Kd.R_reads' HO112.out).2.2 | (with_reducible refine Kd.C_alloc ?_ _) | (with_reducible refine Kd.C_drewN ?_ _) | (with_reducible refine Kd.C_drew ?_))); (case aB => exact (by repeat (first | (with_reducible first | exact HB.out | apply below_alloc | apply pw_below_drewN | apply below_drew1) | exact HB.out))); (case aF => exact (fun k_ hk => Kd.fresh' (Kd.R_lt (by (with_reducible repeat (first | apply Kd.R_alloc | apply Kd.R_drewN | apply Kd.R_drew)); exact HO112.out)) k_ hk)); (case aO => exact (by (with_reducible repeat (first | apply Kd.R_alloc | apply Kd.R_drewN | apply Kd.R_drew)); exact Kd.R_mono HO109.out (fun _ hk => hk.2))); (case aS => exact (below_size (by repeat (first | (with_reducible first | exact HB.out | apply below_alloc | apply pw_below_drewN | apply below_drew1) | exact HB.out)))); (case aL => have := HL.out; have := HYL.out; omega); intro v114 w9 ho hb hg hat; rw [← Ny113.out] at ho; have n1_ := Aside0.mk (hb); have n2_ := Aside0.mk (ho); clear HO112; clear HB; clear HO109; have HB := n1_; have HO115 := n2_; clear n1_ n2_; clear ho hb hg hat; obtain ⟨Ao11, co11, eo11⟩ := Kd.R_slice HO115.out; subst eo11; have q12 : ((l0.length : Int) : Int) ≤ ((y113.length : Int) : Int) := of_decide_eq_true c5b1; obtain ⟨i012, hi012, _, hsz12, _⟩ := info_parts info3; have hcut12 := cut_to (P := Tryd.prog) 23 3 .i64 Tryd.underlying23 hi012 Ao11 y113.length co11 (l0.length : Int) (of_decide_eq_true c4b1) q12 (Kd.R_reads' HO115.out).2.1; rw [Int.toNat_natCast] at hcut12; clear hi012 hsz12; replace q12 := eq_true q12))
  go_ret
  refine ⟨Ao11, co11, rfl, ⟨?_⟩, by repeat (first | (with_reducible first | exact HB.out | apply below_alloc | apply pw_below_drewN | apply below_drew1) | exact HB.out)⟩
  (with_reducible repeat (first | apply Kd.R_alloc | apply Kd.R_drewN | apply Kd.R_drew))
  have h := HO115.out
  rw [Ny113.out, Ny110.out] at h
  exact Kd.R_mono h (fun _ hk => trivial)
theorem cut_room {P : Program} (t e : TypeId) (kh : IntKind) {i : TypeInfo} (ht : P.underlying t = some (.slice e)) (hi : P.info? e = some i) (A : Option Addr) (n c : Nat) (j : Int) (h0 : 0 ≤ j) (hm : j ≤ c) :
    ∀ W : World, (Instr.slice t (.slice A n c) none (some (.int kh j)) none).run P W = .ok (.slice A j.toNat c) W := by
  intro W
  have hel : P.elem t = e := by simp [Program.elem, ht]
  have hu : P.underlying t = some (.slice (P.elem t)) := by rw [hel]; exact ht
  have ha : (A.map fun x => x.add 0) = A := by cases A <;> simp [Addr.add]
  rw [run_slice_h W t A n c hu kh j h0 (by omega), hel]
  simp [sizeOf, typeInfo, hi, sliced, Result.andThen, ha]
set_option maxHeartbeats 8000000 in
set_option maxRecDepth 100000 in
theorem kept_calls (A : Option Addr) (c base : Nat) (l : List Int) (A1 : Option Addr) (c1 : Nat) (w : World) (h : Lent w base A c l) (hr1 : Kd.C (Kd.int .i64) w A1 l.length l) (hc1 : l.length ≤ c1) :
    Calls Tryd.prog 15 #[.slice A l.length c, .slice A1 l.length c1] w fun e w' => e = .returned (.bool true) ∧ Drawn0 w w' := by
  have hcap := h.cap
  have hf := h.full
  have hl3 : (l ++ marks).length = l.length + 2 := by simp [marks]
  have hl : l.length + 2 ≤ maxLen := by have := hf.2.1; rw [hl3] at this; exact this
  obtain ⟨ad, rfl, hx0⟩ := Kd.at_int hf (l.length : Int) (by omega) (by rw [hl3]; omega)
  obtain ⟨ad', e', hx1⟩ := Kd.at_int hf ((l.length + 1 : Nat) : Int) (by omega) (by rw [hl3]; omega)
  cases e'
  have r0 : rd (l ++ marks) (l.length : Int) = -7777 := by rw [rd_nat _ _ (by rw [hl3]; omega)]; simp [marks]
  have r1 : rd (l ++ marks) ((l.length + 1 : Nat) : Int) = -8888 := by rw [rd_nat _ _ (by rw [hl3]; omega)]; simp [marks]
  rw [r0, Int.toNat_natCast] at hx0
  rw [r1, Int.toNat_natCast] at hx1
  have hx2 := hx1
  simp only [Addr.add, if_neg (show ¬ l.length + 1 = 0 by omega)] at hx2
  have hw2 : wrap64 ((l.length : Int) + 2) = (l.length : Int) + 2 := by unfold wrap64 maxLen at *; omega
  have hw1 : wrap64 ((l.length : Int) + 1) = ((l.length + 1 : Nat) : Int) := by unfold wrap64 maxLen at *; omega
  obtain ⟨i0, hi0, _, _, _⟩ := info_parts info3
  have hcut := cut_room (P := Tryd.prog) 23 3 .i64 Tryd.underlying23 hi0 (some ad) l.length c ((l.length : Int) + 2) (by omega) (by omega)
  rw [show ((l.length : Int) + 2).toNat = l.length + 2 by omega] at hcut
  obtain ⟨k, hk⟩ := (sameInts_ev l l (by unfold maxLen at hl; omega)).rounds
  rw [decide_eq_true rfl] at hk
  have HK := Aside0.mk hk
  have HR0 := Aside0.mk h.reads
  have HC0 := Aside0.mk (show l.length ≤ c by omega)
  have HR1 := Aside0.mk hr1
  have HC1 := Aside0.mk hc1
  have b0 : (0 : Int) ≤ (l.length : Int) := by omega
  have b1 : (l.length : Int) < ((l.length + 2 : Nat) : Int) := by omega
  have b2 : (0 : Int) ≤ ((l.length + 1 : Nat) : Int) := by omega
  have b3 : ((l.length + 1 : Nat) : Int) < ((l.length + 2 : Nat) : Int) := by omega
  clear h hf hr1 hc1 hcap hl3 hl r0 r1 hk hi0
  go_enter Tryd.func15, Tryd.ntmps15
  go_wp2_with fail
  refine (quaerelaw0_SameInts.calls k _ _ l _ _ l true _ HR0.out HC0.out HR1.out HC1.out HK.out).mono ?_
  rintro e w' ⟨rfl, ⟨nd, rfl⟩⟩
  go_wp2
  go_ret
  exact ⟨rfl, by repeat (first | exact Drawn0.refl _ | apply Drawn0.step)⟩
end Go.Proofs.YtaegdhpcnpojnaaDoor.PU
