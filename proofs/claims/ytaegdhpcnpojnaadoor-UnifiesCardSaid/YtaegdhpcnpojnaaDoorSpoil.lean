/- SpoilInts and SpoilBinds of the laws: what was told written over; nothing else is. -/
import Derived.Test.YtaegdhpcnpojnaaDoorLend
import Derived.Test.YtaegdhpcnpojnaaDoorPUx0
import Derived.Test.YtaegdhpcnpojnaaDoorPUx4
namespace Go.Proofs.YtaegdhpcnpojnaaDoor.PU
open Go Go.RowKit Go.Proofs.YtaegdhpcnpojnaaDoorW.PrintWords Go.Proofs.YtaegdhpcnpojnaaDoorW.PrintLast Go.Proofs.YtaegdhpcnpojnaaDoorW.PrintMore Go.Proofs.YtaegdhpcnpojnaaDoor
set_option linter.unusedVariables false
set_option linter.unusedSimpArgs false
theorem spoilInts_loop : ∀ (d i : Nat) (x : List Int), x.length - i = d → i ≤ x.length → x.length ≤ maxLen → ∃ r, Ev (fun k => quaerelaw0_SpoilInts.l0 k x (i : Int)) r := by
  intro d
  induction d with
  | zero =>
    intro i x hd hi hl
    exact ⟨x, Ev.step (fun k => rfl) (Ev.if_neg (by omega) (Ev.some_ rfl))⟩
  | succ d ih =>
    intro i x hd hi hl
    obtain ⟨r, hr⟩ := ih (i + 1) (x.set i (wrap64 ((-9) - (Int.tmod (rd x i) 1000)))) (by rw [List.length_set]; omega) (by rw [List.length_set]; omega) (by rw [List.length_set]; exact hl)
    refine ⟨r, Ev.step (fun k => rfl) (Ev.if_pos (by omega) (Ev.if_pos (by omega) ?_))⟩
    rw [wrap_nat i (by unfold maxLen at hl; omega), Int.toNat_natCast]
    exact hr
theorem spoilInts_ev (x : List Int) (hl : x.length ≤ maxLen) : ∃ r, Ev (fun k => quaerelaw0_SpoilInts.f k x) r := spoilInts_loop x.length 0 x rfl (Nat.zero_le _) hl
set_option maxHeartbeats 1000000 in
set_option maxRecDepth 100000 in
theorem spoil_calls (v : Value) (s : List S41) (w0 w : World) (hB : Below w0.heap.size w0 w) (ho : Kd.S k41 41 w w0.heap.size (fun _ => True) v s) :
    Calls Tryd.prog 14 #[v] w fun e w' => e = .returned (.tuple #[]) ∧ Below w0.heap.size w0 w' := by
  have hub := Tryd.underlying41
  obtain ⟨A, c, rfl⟩ := Kd.S_slice ho
  obtain ⟨_, _, hrd⟩ := Kd.S_reads' ho
  have hlen : s.length ≤ maxLen := hrd.2.1
  have HL := Aside0.mk hlen
  have HS0 := Aside0.mk ho
  have HB0 := Aside0.mk hB
  clear hrd hlen ho hB
  go_enter Tryd.func14, Tryd.ntmps14
  go_wp2
  go_loopg [2] (s.length + 1) (fun kq v2 w' => ∃ (i : Nat) (s' : List S41), v2 = .int .i64 i ∧ Aside0 (i ≤ s.length ∧ kq + i = s.length + 1) ∧ Aside0 (s'.length = s.length) ∧ Aside0 (Kd.S k41 41 w' w0.heap.size (fun _ => True) (.slice A s.length c) s') ∧ Aside0 (Below w0.heap.size w0 w'))
  case atStart => exact ⟨0, s, rfl, ⟨by omega, by omega⟩, ⟨rfl⟩, ⟨by (with_reducible repeat (first | apply Kd.S_alloc | apply Kd.S_drewN | apply Kd.S_drew)); exact HS0.out⟩, ⟨by repeat (first | (with_reducible first | exact HB0.out | apply below_alloc | apply pw_below_drewN | apply below_drew1) | exact HB0.out)⟩⟩
  case round =>
    obtain ⟨i, s', rfl, HI, HSL, HO, HB⟩ := hrel
    by_cases hi : i < s.length
    · have hform := Kd.S_form HO.out (by rw [HSL.out]; omega)
      obtain ⟨g, cap, he, hg1, hg2, _⟩ := hform
      injection he with he1 he2 he3
      subst he1
      subst he3
      clear he2
      have hw1 := wrap_nat i (by have := HL.out; unfold maxLen at this; omega)
      have hi0 : (0 : Int) ≤ (i : Int) := by omega
      have hi1 : (i : Int) < (s.length : Int) := by omega
      obtain ⟨oki, cs, hcl, hM, hcc, hoki, hH⟩ := Kd.S_lend HO.out z41 (i : Int) hi0 hi1
      rw [Int.toNat_natCast] at hM hcc
      obtain ⟨b, hb⟩ : ∃ b, s'.getD i z41 = b := ⟨_, rfl⟩
      rw [hb] at hM
      obtain ⟨v1, rfl, hR⟩ := k41_openM hM
      obtain ⟨A1, c1, rfl⟩ := Kd.R_slice hR
      have hx : wr.cell? ⟨g, i * 2 + 1, none⟩ = some (.slice A1 b.f1.length c1) := hcc 1 _ rfl
      obtain ⟨r, hr⟩ := spoilInts_ev b.f1 ((Kd.R_reads' hR).2.2).2.1
      obtain ⟨k, hk⟩ := hr.rounds
      have HX := Aside0.mk hk
      have HR := Aside0.mk hR
      have HH := Aside0.mk hH
      clear hcc hM hR hH hb hcl hr hk
      go_wp2_with fail
      refine (quaerelaw0_SpoilInts.calls k oki (.slice A1 b.f1.length c1) b.f1 r w0 _ ?b1 ?b2 HX.out).mono ?_
      case b1 => repeat (first | (with_reducible first | exact HB.out | apply below_alloc | apply pw_below_drewN | apply below_drew1) | exact HB.out)
      case b2 => (with_reducible repeat (first | apply Kd.R_alloc | apply Kd.R_drewN | apply Kd.R_drew)); exact HR.out
      rintro e w1 ⟨rfl, hr1, hb1, hk1⟩
      have HS := Aside0.mk (Kd.H_back (x' := ⟨b.f0, r⟩) (okp := fun k_ => oki k_ ∨ _ ≤ k_) (Kd.H_step (Kd.H_widen (show Kd.H k41 41 _ w0.heap.size (fun _ => True) _ s' (i : Int) oki _ from by (with_reducible repeat (first | apply Kd.H_alloc | apply Kd.H_drewN | apply Kd.H_drew)); exact HH.out)) (fun k_ _ hn hlt => hk1.2 k_ hlt (fun h => hn (.inl h)))) (k41_mkM _ _ _ ⟨b.f0, r⟩ hr1) (fun k_ h => h.imp (fun h => h) (fun h => ⟨trivial, h⟩)))
      have HB1 := Aside0.mk hb1
      clear hr1 hb1 hk1
      go_wp2
      go_roundg (gk - 1)
      case measure => have := HI.out; omega
      case rel => exact ⟨i + 1, s'.set i ⟨b.f0, r⟩, by first | exact congrArg (Value.int .i64) hw1 | rfl | go_num | (simp; done), ⟨by have := HI.out; omega, by have := HI.out; omega⟩, ⟨by rw [List.length_set]; exact HSL.out⟩, ⟨by (with_reducible repeat (first | apply Kd.S_alloc | apply Kd.S_drewN | apply Kd.S_drew)); exact HS.out⟩, ⟨by repeat (first | (with_reducible first | exact HB1.out | apply below_alloc | apply pw_below_drewN | apply below_drew1) | exact HB1.out)⟩⟩
    · obtain rfl : i = s.length := by have := HI.out; omega
      clear hi
      go_wp2
      go_end0
      exact ⟨rfl, by repeat (first | (with_reducible first | exact HB.out | apply below_alloc | apply pw_below_drewN | apply below_drew1) | exact HB.out)⟩
end Go.Proofs.YtaegdhpcnpojnaaDoor.PU
