/- UnifyVars: its walk, and that it answers true. -/
import Derived.Test.YtaegdhpcnpojnaaDoorVarsP
import Derived.Test.YtaegdhpcnpojnaaDoorAwake4
import Derived.WalkSpells
import Derived.IntWalk
import Derived.Deep.WholeRow
import Derived.Test.YtaegdhpcnpojnaaDoorPUx0
import Derived.Test.YtaegdhpcnpojnaaDoorPUx4
import Derived.Test.YtaegdhpcnpojnaaDoorPUx12
import Derived.Test.YtaegdhpcnpojnaaDoorPUx15
namespace Go.Proofs.YtaegdhpcnpojnaaDoor.PU
open Go Go.RowKit Go.Proofs.YtaegdhpcnpojnaaDoorW.PrintWords Go.Proofs.YtaegdhpcnpojnaaDoorW.PrintLast Go.Proofs.YtaegdhpcnpojnaaDoorW.PrintMore Go.Proofs.YtaegdhpcnpojnaaDoor
set_option linter.unusedVariables false
set_option linter.unusedSimpArgs false
def rkf (f : Nat → Nat) : Array Value := ((List.range 24).map fun (v : Nat) => Value.int .i64 ((f v : Nat) : Int)).toArray
theorem rkf_size (f : Nat → Nat) : (rkf f).size = 24 := by simp [rkf]
theorem rkf_at (f : Nat → Nat) (v : Nat) (h : v < 24) : (rkf f)[v]? = some (.int .i64 ((f v : Nat) : Int)) := by simp [rkf, h]
theorem rkf_zero : rkf (fun _ => 0) = #[.int .i64 0, .int .i64 0, .int .i64 0, .int .i64 0, .int .i64 0, .int .i64 0, .int .i64 0, .int .i64 0, .int .i64 0, .int .i64 0, .int .i64 0, .int .i64 0, .int .i64 0, .int .i64 0, .int .i64 0, .int .i64 0, .int .i64 0, .int .i64 0, .int .i64 0, .int .i64 0, .int .i64 0, .int .i64 0, .int .i64 0, .int .i64 0] := by kernel_rfl
theorem rkf_congr {f g : Nat → Nat} (h : ∀ v, v < 24 → f v = g v) : rkf f = rkf g := by
  unfold rkf
  congr 1
  apply List.map_congr_left
  intro v hv
  rw [h v (List.mem_range.1 hv)]
theorem rkf_set (f : Nat → Nat) (v x : Nat) (h : v < 24) : (rkf f).setIfInBounds v (.int .i64 ((x : Nat) : Int)) = rkf (fun u => if u = v then x else f u) := by
  apply Array.ext_getElem?
  intro j
  rw [Array.getElem?_setIfInBounds]
  by_cases hj : j < 24
  · rw [rkf_at _ j hj, rkf_at _ j hj]
    by_cases e : v = j
    · subst e
      rw [if_pos rfl, if_pos (by rw [rkf_size]; exact h), if_pos rfl]
    · rw [if_neg e, if_neg (fun h => e h.symm)]
  · rw [if_neg (by omega), Array.getElem?_eq_none (by rw [rkf_size]; omega), Array.getElem?_eq_none (by rw [rkf_size]; omega)]
def vOf (c : Int) : Nat := ((IntKind.u64.wrap c).tmod 8).toNat
theorem vOf_is (c : Int) : vOf c < 8 ∧ (IntKind.u64.wrap c).tmod 8 = (vOf c : Int) := by
  have e : IntKind.u64.wrap c = c % 18446744073709551616 := by simp [IntKind.wrap, IntKind.bits, IntKind.signed]
  have h0 : 0 ≤ IntKind.u64.wrap c := by rw [e]; omega
  have h1 := Int.tmod_lt_of_pos (IntKind.u64.wrap c) (show (0 : Int) < 8 by decide)
  have h2 := Int.tmod_nonneg 8 h0
  unfold vOf
  omega
def psOf (xs ys : List Int) : Nat → List (Nat × Nat)
  | 0 => []
  | n + 1 => psOf xs ys n ++ [(vOf (rd xs (n : Int)), vOf (rd ys (n : Int)))]
theorem psOf_len (xs ys : List Int) : ∀ n, (psOf xs ys n).length = n
  | 0 => rfl
  | n + 1 => by simp only [psOf, List.length_append, psOf_len xs ys n]; rfl
theorem psOf_mem (xs ys : List Int) : ∀ n, ∀ p ∈ psOf xs ys n, p.1 < 24 ∧ p.2 < 24
  | 0, p, h => by cases h
  | n + 1, p, h => by
    simp only [psOf, List.mem_append] at h
    rcases h with h | h
    · exact psOf_mem xs ys n p h
    · obtain rfl := List.mem_singleton.1 h
      have h1 := (vOf_is (rd xs (n : Int))).1
      have h2 := (vOf_is (rd ys (n : Int))).1
      exact ⟨by show vOf _ < 24; omega, by show vOf _ < 24; omega⟩
def rkAt (xs ys : List Int) (n : Nat) : List Nat := ranks (psOf xs ys n) (List.range 24)
theorem rkAt_ok (xs ys : List Int) (n : Nat) : RkOk (rkAt xs ys n) := ranks_ok _ _ rk0_ok (psOf_mem xs ys n)
theorem rkAt_succ (xs ys : List Int) (n : Nat) : rkAt xs ys (n + 1) = mergeR (rkAt xs ys n) (vOf (rd xs (n : Int))) (vOf (rd ys (n : Int))) := by
  unfold rkAt
  simp only [psOf]
  rw [ranks_snoc]
theorem rowA_succ (xs ys : List Int) (n : Nat) : rowA (psOf xs ys (n + 1)) = rowA (psOf xs ys n) ++ [-1 - (vOf (rd xs (n : Int)) : Int)] := by simp [rowA, psOf]
theorem rowB_succ (xs ys : List Int) (n : Nat) : rowB (psOf xs ys (n + 1)) = rowB (psOf xs ys n) ++ [-1 - (vOf (rd ys (n : Int)) : Int)] := by simp [rowB, psOf]
theorem rowA_len (xs ys : List Int) (n : Nat) : (rowA (psOf xs ys n)).length = n := by unfold rowA; rw [List.length_map, psOf_len]
theorem rowB_len (xs ys : List Int) (n : Nat) : (rowB (psOf xs ys n)).length = n := by unfold rowB; rw [List.length_map, psOf_len]
theorem R_int_ok {e base : Nat} {w : World} {ok ok' : Nat → Prop} {v : Value} {l : List Int} (h : (Kd.int .i64).R e w base ok v l) (h' : ∀ k, v.ownBlock = some k → ok' k) : (Kd.int .i64).R e w base ok' v l := by
  obtain ⟨_, inner, ho, hr⟩ := h
  exact ⟨h', inner, ho, hr.1, fun j p hj => hr.2 j p hj⟩
/-- Of two rows of one's own that lie apart the one is as it was where the other one grew. -/
theorem R_int_apart {e base : Nat} {w w1 : World} {ok : Nat → Prop} {v : Value} {l : List Int} {row : Option Nat} (h : (Kd.int .i64).R e w base ok v l) (hg : w.grownBy w1 row) (hne : v.ownBlock = none ∨ v.ownBlock ≠ row) : (Kd.int .i64).R e w1 base ok v l := by
  have h0 := h.1
  refine R_int_ok (Kd.R_grown (R_int_ok h (ok' := fun k => v.ownBlock = some k) (fun k hk => hk)) hg (fun k hk e => ?_)) h0
  rcases hne with hn | hn
  · rw [hn] at hk; cases hk
  · exact hn (hk.trans e)
theorem R_int_lt {e base : Nat} {w : World} {ok : Nat → Prop} {v : Value} {l : List Int} (h : (Kd.int .i64).R e w base ok v l) {k : Nat} (hk : v.ownBlock = some k) : k < w.heap.size := ((Kd.R_bound h).1 k hk).2.2.1
theorem words4_sign : SignOk words4 := by
  obtain ⟨n, h, _⟩ := row4 [1] (by kernel_rfl)
  exact h
theorem rkL_pre (rk : List Nat) (v : Nat) : ∀ n, v ≤ n → ∃ t, rkL rk n = rkL rk v ++ t := by
  intro n
  induction n with
  | zero => intro h; obtain rfl : v = 0 := by omega
            exact ⟨[], (List.append_nil _).symm⟩
  | succ n ih =>
    intro h
    by_cases e : v = n + 1
    · subst e; exact ⟨[], by simp⟩
    · obtain ⟨t, ht⟩ := ih (by omega)
      exact ⟨_, by simp only [rkL]; rw [ht, List.append_assoc]⟩
theorem rkL_at (rk : List Nat) {v : Nat} (hv : v < 24) (h : rk.getD v 0 ≠ v) : (rkL rk v).length < (rkL rk 24).length ∧ rd_T41 (rkL rk 24) ((rkL rk v).length : Int) = ⟨(v : Int), [-1 - ((rk.getD v 0 : Nat) : Int)]⟩ ∧ (rkL rk (v + 1)).length = (rkL rk v).length + 1 := by
  obtain ⟨t, ht⟩ := rkL_pre rk (v + 1) 24 hv
  have h1 : rkL rk (v + 1) = rkL rk v ++ [⟨(v : Int), [-1 - ((rk.getD v 0 : Nat) : Int)]⟩] := by simp only [rkL]; rw [if_neg h]
  refine ⟨by rw [ht, h1]; simp, ?_, by rw [h1]; simp⟩
  unfold rd_T41
  rw [ht, h1, Int.toNat_natCast, List.getD_eq_getElem?_getD]
  simp
theorem rkL_same (rk : List Nat) {v : Nat} (h : rk.getD v 0 = v) : rkL rk (v + 1) = rkL rk v := by simp only [rkL]; rw [if_pos h]; simp
theorem C_one {W W' : World} {c : Int} (h : Below (W.alloc (.cells #[.int .i64 c] 3)).heap.size (W.alloc (.cells #[.int .i64 c] 3)) W') : Kd.C (Kd.int .i64) W' (some ⟨W.heap.size, 0, none⟩) 1 [c] :=
  Kd.C_below (Kd.R_reads' (R_oneN (Kd.int .i64) W 0 3 (ok := fun _ => True) (x := c) (cs := [.int .i64 c]) rfl rfl (by omega) trivial)).2.2 h
theorem own_swap {u v : Value} (h : u.ownBlock = none ∨ u.ownBlock ≠ v.ownBlock) : v.ownBlock = none ∨ v.ownBlock ≠ u.ownBlock := by
  rcases h with h | h
  · cases e : v.ownBlock with
    | none => exact .inl rfl
    | some k => exact .inr (by rw [h]; simp)
  · exact .inr (fun e => h e.symm)
theorem own_new {e base : Nat} {W : World} {ok : Nat → Prop} {u v v1 : Value} {l : List Int} (hv : (Kd.int .i64).R e W base ok v l) (hat : v1.ownBlock = u.ownBlock ∨ ∃ b, v1.ownBlock = some b ∧ W.heap.size ≤ b) (h : u.ownBlock = none ∨ u.ownBlock ≠ v.ownBlock) : v1.ownBlock = none ∨ v1.ownBlock ≠ v.ownBlock := by
  rcases hat with ha | ⟨b, hb, hlt⟩
  · rw [ha]; exact h
  · right
    rw [hb]
    intro e
    have := R_int_lt hv e.symm
    omega
theorem vOf_conv (c : Int) : IntKind.i64.wrap ((IntKind.u64.wrap c).tmod 8) = (vOf c : Int) := by
  obtain ⟨h1, h2⟩ := vOf_is c
  rw [h2]
  exact IntWalk.i64_in _ (by omega)
set_option maxHeartbeats 2000000 in
set_option maxRecDepth 100000 in
theorem vars_calls (A0 : Option Addr) (c0 : Nat) (xs : List Int) (A1 : Option Addr) (c1 : Nat) (ys : List Int) (w : World) (hr0 : Kd.C (Kd.int .i64) w A0 xs.length xs) (hc0 : xs.length ≤ c0) (hr1 : Kd.C (Kd.int .i64) w A1 ys.length ys) (hc1 : ys.length ≤ c1) (hG : Glob w) :
    Calls Tryd.prog 4 #[.slice A0 xs.length c0, .slice A1 ys.length c1] w fun e w' => e = .returned (.bool true) ∧ Below w.heap.size w w' := by
  have huc := Tryd.underlying37
  have hub := Tryd.underlying41
  obtain ⟨kw, hkw⟩ := awake4_ev.rounds
  have HKW := Aside0.mk hkw
  have HR0 := Aside0.mk hr0
  have HR1 := Aside0.mk hr1
  clear hr0 hr1 hkw
  go_enter Tryd.func4, Tryd.ntmps4
  go_wp2_with fail
  refine (quaerelaw4_awake.calls kw true _ HKW.out hG).mono ?_
  rintro e w1 ⟨rfl, hb1⟩
  have HB1 := Aside0.mk hb1
  have HG1 := Aside0.mk (hG.below hb1)
  clear hb1 hG HKW
  by_cases h20 : 20 < xs.length
  · have d1 : decide ((20 : Int) < (xs.length : Int)) = true := by rw [decide_eq_true_eq]; omega
    have d2 : decide (20 < xs.length) = true := by rw [decide_eq_true_eq]; omega
    clear h20
    go_wp2
    go_ret
    exact ⟨rfl, HB1.out⟩
  have d1 : decide ((20 : Int) < (xs.length : Int)) = false := by rw [decide_eq_false_iff_not]; omega
  have d2 : decide (20 < xs.length) = false := by rw [decide_eq_false_iff_not]; omega
  by_cases hba : ys.length < xs.length
  · have d3 : decide ((ys.length : Int) < (xs.length : Int)) = true := by rw [decide_eq_true_eq]; omega
    have d4 : decide (ys.length < xs.length) = true := by rw [decide_eq_true_eq]; omega
    clear h20 hba
    go_wp2
    go_ret
    exact ⟨rfl, HB1.out⟩
  have d3 : decide ((ys.length : Int) < (xs.length : Int)) = false := by rw [decide_eq_false_iff_not]; omega
  have d4 : decide (ys.length < xs.length) = false := by rw [decide_eq_false_iff_not]; omega
  have H20 := Aside0.mk h20
  have HBA := Aside0.mk hba
  clear h20 hba
  go_wp2
  go_loopg [8] 25 (fun kq v8 w' => ∃ (i : Nat), v8 = .int .i64 (i : Int) ∧ Aside0 (i ≤ 24 ∧ kq + i = 25) ∧ Aside0 (w'.heap[w1.heap.size]? = some (.cells (rkf (fun v => if v < i then v else 0)) 37 (0, 0))) ∧ Aside0 (Below w1.heap.size w1 w'))
  case atStart => exact ⟨0, rfl, ⟨by omega, by omega⟩, ⟨by rw [rkf_congr (g := fun _ => 0) (fun v _ => if_neg (by omega)), rkf_zero]; exact heap_alloc_new _ _⟩, ⟨below_alloc (Below.refl _ _) _⟩⟩
  case round =>
    obtain ⟨i, rfl, HI, HH, HB⟩ := hrel
    by_cases hi : i < 24
    · have hi0 : (0 : Int) ≤ (i : Int) := by omega
      have hi1 : (i : Int) < 24 := by omega
      have d0 : decide ((i : Int) < 24) = true := by rw [decide_eq_true_eq]; omega
      have HW1 := Aside0.mk (wrap_nat i (by omega))
      have HI24 := Aside0.mk hi
      have hxc : wr.cell? ⟨w1.heap.size, i, none⟩ = some (.int .i64 (((if i < i then i else 0 : Nat)) : Int)) := (blk_cell HH.out i).trans (rkf_at _ i hi)
      have hxf : wr.frozen? ⟨w1.heap.size, i, none⟩ = false := blk_frozen HH.out i
      have HN := Aside0.mk (show (rkf (fun v => if v < i then v else 0)).setIfInBounds i (.int .i64 ((i : Nat) : Int)) = rkf (fun v => if v < i + 1 then v else 0) by
        rw [rkf_set _ i i hi]
        refine rkf_congr (fun v _ => ?_)
        by_cases e : v = i
        · rw [if_pos e, if_pos (by omega), e]
        · by_cases h : v < i
          · rw [if_neg e, if_pos h, if_pos (by omega)]
          · rw [if_neg e, if_neg h, if_neg (by omega)])
      clear hi
      go_wp2
      go_roundg (gk - 1)
      case measure => have := HI.out; omega
      case rel => exact ⟨i + 1, by first | exact congrArg (Value.int .i64) HW1.out | rfl | go_num | (simp; done), ⟨by have := HI24.out; omega, by have := HI.out; omega⟩, ⟨by rw [← HN.out]; exact blk_set HH.out _ _⟩, ⟨by repeat (first | (with_reducible first | exact HB.out | apply below_alloc | apply pw_below_drewN | apply below_drew1 | refine below_set ?_ (Nat.le_refl _)) | exact HB.out)⟩⟩
    · have hi24 : i = 24 := by have := HI.out; omega
      have d0 : decide ((i : Int) < 24) = false := by rw [decide_eq_false_iff_not]; omega
      have HH0 := Aside0.mk (show wr.heap[w1.heap.size]? = some (.cells (rkf (fun v => (rkAt xs ys 0).getD v 0)) 37 (0, 0)) by
        rw [HH.out]
        have : rkf (fun v => if v < i then v else 0) = rkf (fun v => (rkAt xs ys 0).getD v 0) := rkf_congr (fun v hv => by
          rw [if_pos (by omega)]
          exact (rk0_at hv).symm)
        rw [this])
      have HB0 := Aside0.mk HB.out
      clear hi hi24 HH HI HB
      go_wp2
      go_loopg [5, 6, 9] (xs.length + 1) (fun kq v5 v6 v9 w' => ∃ (i : Nat), v9 = .int .i64 (i : Int) ∧ Aside0 (i ≤ xs.length ∧ kq + i = xs.length + 1) ∧ Aside0 ((Kd.int .i64).R 3 w' w1.heap.size (fun q => q ≠ w1.heap.size) v5 (rowA (psOf xs ys i))) ∧ Aside0 ((Kd.int .i64).R 3 w' w1.heap.size (fun q => q ≠ w1.heap.size) v6 (rowB (psOf xs ys i))) ∧ Aside0 (v5.ownBlock = none ∨ v5.ownBlock ≠ v6.ownBlock) ∧ Aside0 (w'.heap[w1.heap.size]? = some (.cells (rkf (fun v => (rkAt xs ys i).getD v 0)) 37 (0, 0))) ∧ Aside0 (Below w1.heap.size w1 w'))
      case atStart => exact ⟨0, rfl, ⟨by omega, by omega⟩, ⟨Kd.R_nil _ _ _ _ _⟩, ⟨Kd.R_nil _ _ _ _ _⟩, ⟨.inl rfl⟩, ⟨HH0.out⟩, ⟨HB0.out⟩⟩
      case round =>
        clear HH0 HB0
        obtain ⟨i, rfl, HI, HA, HC, HNE, HH, HB⟩ := hrel
        obtain ⟨go, hgo⟩ : ∃ g, g = gk := ⟨_, rfl⟩
        have HGO := Aside0.mk hgo
        clear hgo
        by_cases hi : i < xs.length
        · have hi0 : (0 : Int) ≤ (i : Int) := by omega
          have hi1 : (i : Int) < (xs.length : Int) := by omega
          have hi2 : (i : Int) < (ys.length : Int) := by have := HBA.out; omega
          have d0 : decide ((i : Int) < (xs.length : Int)) = true := by rw [decide_eq_true_eq]; omega
          have d5 : decide (i < xs.length) = true := by rw [decide_eq_true_eq]; omega
          have HBW := Aside0.mk (below_step HB1.out HB.out)
          obtain ⟨ad, rfl, hx⟩ := Kd.at_int (Kd.C_below HR0.out HBW.out) (i : Int) hi0 hi1
          obtain ⟨ae, rfl, hy⟩ := Kd.at_int (Kd.C_below HR1.out HBW.out) (i : Int) hi0 hi2
          rw [Int.toNat_natCast] at hx hy
          have hv := vOf_conv (rd xs (i : Int))
          have hw := vOf_conv (rd ys (i : Int))
          have HX := Aside0.mk (show -9223372036854775808 ≤ -1 - (vOf (rd xs (i : Int)) : Int) ∧ -1 - (vOf (rd xs (i : Int)) : Int) ≤ 9223372036854775807 by have := (vOf_is (rd xs (i : Int))).1; omega)
          have hnv : IntKind.i64.wrap (-1 - (vOf (rd xs (i : Int)) : Int)) = -1 - (vOf (rd xs (i : Int)) : Int) := IntWalk.i64_in _ (by have := (vOf_is (rd xs (i : Int))).1; omega)
          have hnw : IntKind.i64.wrap (-1 - (vOf (rd ys (i : Int)) : Int)) = -1 - (vOf (rd ys (i : Int)) : Int) := IntWalk.i64_in _ (by have := (vOf_is (rd ys (i : Int))).1; omega)
          obtain ⟨v, hv8, hve⟩ : ∃ v, v < 8 ∧ v = vOf (rd xs (i : Int)) := ⟨_, (vOf_is _).1, rfl⟩
          obtain ⟨u, hu8, hue⟩ : ∃ u, u < 8 ∧ u = vOf (rd ys (i : Int)) := ⟨_, (vOf_is _).1, rfl⟩
          rw [← hve] at hv hnv
          rw [← hue] at hw hnw
          have HV := Aside0.mk hve
          have HU := Aside0.mk hue
          have HLEN := Aside0.mk (show (rowA (psOf xs ys i)).length = i ∧ (rowB (psOf xs ys i)).length = i ∧ i < 20 from ⟨rowA_len .., rowB_len .., by have := H20.out; omega⟩)
          clear hve hue
          go_wp2
          go_quiet (fail)
          have HHN := Aside0.mk (blk_drewN HH.out nq)
          have HCN := Aside0.mk (Kd.R_drewN HC.out nq)
          go_wp2_with (first | ((with_reducible refine gate_builtin (b := .append) (xs := #[.tmp 59, .tmp 62]) rfl ?_); at_builtin; refine Kd.R_append (Kd.int .i64) (w0 := w1) w1.heap.size rfl (.tmp 59) (.tmp 62) 23 3 (.int .i64 0) 8 rfl Tryd.underlying23 info3 rfl (by decide) (by omega) u5 (rowA (psOf xs ys i)) (-1 - (v : Int)) [.int .i64 (-1 - (v : Int))] (fun q => q ≠ w1.heap.size) (fun _ => False) rfl rfl ?aP (fun _ hk => hk.elim) ?aF ?aO ?aB ?aS ?aL ?_; (case aP => rfl); (case aF => intro q hq; have := blk_lt HHN.out; omega); (case aO => exact (Kd.R_drewN HA.out nq)); (case aB => exact (pw_below_drewN HB.out nq)); (case aS => exact below_size (pw_below_drewN HB.out nq)); (case aL => have := HLEN.out; omega); intro v63 w63 ho hb hg hat; have n63b := Aside0.mk hb; have n63o := Aside0.mk ho; have n63g := Aside0.mk hg; have n63a := Aside0.mk hat; clear ho hb hg hat; have HC2 := Aside0.mk (R_int_apart HCN.out n63g.out (own_swap HNE.out)); have HH2 := Aside0.mk (blk_grown HHN.out n63g.out (fun e => HA.out.1 _ e.symm rfl)); have HNE2 := Aside0.mk (own_new HCN.out n63a.out HNE.out)) | ((with_reducible refine gate_builtin (b := .append) (xs := #[.tmp 64, .tmp 67]) rfl ?_); at_builtin; refine Kd.R_append (Kd.int .i64) (w0 := w1) w1.heap.size rfl (.tmp 64) (.tmp 67) 23 3 (.int .i64 0) 8 rfl Tryd.underlying23 info3 rfl (by decide) (by omega) u6 (rowB (psOf xs ys i)) (-1 - (u : Int)) [.int .i64 (-1 - (u : Int))] (fun q => q ≠ w1.heap.size) (fun _ => False) rfl rfl ?aP (fun _ hk => hk.elim) ?aF ?aO ?aB ?aS ?aL ?_; (case aP => rfl); (case aF => intro q hq; have := blk_lt HH2.out; omega); (case aO => exact HC2.out); (case aB => exact n63b.out); (case aS => exact below_size n63b.out); (case aL => have := HLEN.out; omega); intro v68 w68 ho hb hg hat; have n68b := Aside0.mk hb; have n68o := Aside0.mk ho; have n68g := Aside0.mk hg; have n68a := Aside0.mk hat; clear ho hb hg hat))
          have HA3 := Aside0.mk (R_int_apart n63o.out n68g.out HNE2.out)
          have HH3 := Aside0.mk (blk_grown HH2.out n68g.out (fun e => HC2.out.1 _ e.symm rfl))
          have HNE3 := Aside0.mk (own_swap (own_new n63o.out n68a.out (own_swap HNE2.out)))
          clear HHN HCN HC2 HH2 HNE HNE2 n63b n63o n63g n63a n68g n68a HA HC HH HB
          have HRK := Aside0.mk (rkAt_ok xs ys i)
          obtain ⟨rk, hrk⟩ : ∃ rk, rk = rkAt xs ys i := ⟨_, rfl⟩
          have HRS := rkAt_succ xs ys i
          rw [← HV.out, ← HU.out, ← hrk] at HRS
          rw [← hrk] at HRK HH3
          obtain ⟨x, hx_⟩ : ∃ x, x = rk.getD v 0 := ⟨_, rfl⟩
          obtain ⟨y, hy_⟩ : ∃ y, y = rk.getD u 0 := ⟨_, rfl⟩
          have hx24 : x < 24 := by have := HRK.out.le v (by omega); omega
          have hy24 : y < 24 := by have := HRK.out.le u (by omega); omega
          have hcv : w68.cell? ⟨w1.heap.size, v, none⟩ = some (.int .i64 (x : Int)) := by rw [hx_]; exact (blk_cell HH3.out v).trans (rkf_at _ v (by omega))
          have hcu : w68.cell? ⟨w1.heap.size, u, none⟩ = some (.int .i64 (y : Int)) := by rw [hy_]; exact (blk_cell HH3.out u).trans (rkf_at _ u (by omega))
          have hv0 : (0 : Int) ≤ (v : Int) := by omega
          have hv1 : (v : Int) < 24 := by omega
          have hu0 : (0 : Int) ≤ (u : Int) := by omega
          have hu1 : (u : Int) < 24 := by omega
          have HX_ := Aside0.mk hx_
          have HY_ := Aside0.mk hy_
          have HRS := Aside0.mk HRS
          clear hx_ hy_
          go_wp2
          go_quiet (fail)
          obtain ⟨mx, hmx⟩ : ∃ mx, mx = max x y := ⟨_, rfl⟩
          obtain ⟨mn, hmn⟩ : ∃ mn, mn = min x y := ⟨_, rfl⟩
          rw [show (if x < y then (y : Int) else (x : Int)) = (mx : Int) by rw [hmx]; split <;> omega, show (if y < x then (y : Int) else (x : Int)) = (mn : Int) by rw [hmn]; split <;> omega]
          have HMG := Aside0.mk (show ∀ k, k < 24 → (rkAt xs ys (i + 1)).getD k 0 = mg mx mn (rk.getD k 0) by
            intro k hk
            rw [HRS.out, mergeR_at HRK.out v u hk, ← HX_.out, ← HY_.out, ← hmx, ← hmn])
          have HM24 := Aside0.mk (show mx < 24 ∧ mn < 24 by omega)
          have HB4 := Aside0.mk (pw_below_drewN n68b.out nq)
          have HA4 := Aside0.mk (Kd.R_drewN HA3.out nq)
          have HC4 := Aside0.mk (Kd.R_drewN n68o.out nq)
          have HH4 := Aside0.mk (blk_drewN HH3.out nq)
          obtain ⟨W4, hW4⟩ : ∃ W4, W4 = w68.drewN nq := ⟨_, rfl⟩
          rw [← hW4] at HB4 HA4 HC4 HH4 ⊢
          clear hW4 hmx hmn HX_ HY_ HRS hcv hcu hx24 hy24 HA3 n68o n68b HH3
          go_wp2
          go_loopg [14] 25 (fun kq v14 w' => ∃ (k : Nat), v14 = .int .i64 (k : Int) ∧ Aside0 (k ≤ 24 ∧ kq + k = 25) ∧ Aside0 ((Kd.int .i64).R 3 w' w1.heap.size (fun q => q ≠ w1.heap.size) v63 (rowA (psOf xs ys i) ++ [-1 - (v : Int)])) ∧ Aside0 ((Kd.int .i64).R 3 w' w1.heap.size (fun q => q ≠ w1.heap.size) v68 (rowB (psOf xs ys i) ++ [-1 - (u : Int)])) ∧ Aside0 (w'.heap[w1.heap.size]? = some (.cells (rkf (fun q => if q < k then mg mx mn (rk.getD q 0) else rk.getD q 0)) 37 (0, 0))) ∧ Aside0 (Below w1.heap.size w1 w'))
          case atStart => exact ⟨0, rfl, ⟨by omega, by omega⟩, HA4, HC4, ⟨by rw [rkf_congr (g := fun q => rk.getD q 0) (fun q _ => if_neg (by omega))]; exact HH4.out⟩, HB4⟩
          case round =>
            clear HA4 HC4 HH4 HB4
            obtain ⟨k, rfl, HK, HA, HC, HH, HB⟩ := hrel
            by_cases hk : k < 24
            · have hk0 : (0 : Int) ≤ (k : Int) := by omega
              have hk1 : (k : Int) < 24 := by omega
              have d6 : decide ((k : Int) < 24) = true := by rw [decide_eq_true_eq]; omega
              have HW1 := Aside0.mk (wrap_nat k (by omega))
              have HK24 := Aside0.mk hk
              obtain ⟨z, hz⟩ : ∃ z, z = rk.getD k 0 := ⟨_, rfl⟩
              have hxc : wr.cell? ⟨w1.heap.size, k, none⟩ = some (.int .i64 (z : Int)) := by
                rw [blk_cell HH.out k, rkf_at _ k hk, if_neg (Nat.lt_irrefl k), hz]
              have hxf : wr.frozen? ⟨w1.heap.size, k, none⟩ = false := blk_frozen HH.out k
              have HZ := Aside0.mk hz
              clear hk hz
              by_cases hzm : z = mx
              · have d7 : decide ((z : Int) = (mx : Int)) = true := by rw [decide_eq_true_eq]; omega
                have d8 : ((z : Int) == (mx : Int)) = true := by simp; omega
                have HN := Aside0.mk (show (rkf (fun q => if q < k then mg mx mn (rk.getD q 0) else rk.getD q 0)).setIfInBounds k (.int .i64 ((mn : Nat) : Int)) = rkf (fun q => if q < k + 1 then mg mx mn (rk.getD q 0) else rk.getD q 0) by
                  rw [rkf_set _ k mn HK24.out]
                  refine rkf_congr (fun q _ => ?_)
                  by_cases e : q = k
                  · subst e
                    rw [if_pos rfl, if_pos (by omega), ← HZ.out, hzm]
                    exact (if_pos rfl).symm
                  · by_cases h : q < k
                    · rw [if_neg e, if_pos h, if_pos (by omega)]
                    · rw [if_neg e, if_neg h, if_neg (by omega)])
                clear hzm
                go_wp2
                go_roundg (gk - 1)
                case measure => have := HK.out; omega
                case rel => exact ⟨k + 1, by first | exact congrArg (Value.int .i64) HW1.out | rfl | go_num | (simp; done), ⟨by have := HK24.out; omega, by have := HK.out; omega⟩, ⟨Kd.R_far HA.out (fun q hq => hq) _⟩, ⟨Kd.R_far HC.out (fun q hq => hq) _⟩, ⟨by rw [← HN.out]; exact blk_set HH.out _ _⟩, ⟨below_set HB.out (Nat.le_refl _)⟩⟩
              · have d7 : decide ((z : Int) = (mx : Int)) = false := by rw [decide_eq_false_iff_not]; omega
                have d8 : ((z : Int) == (mx : Int)) = false := by simp; omega
                have HN := Aside0.mk (show rkf (fun q => if q < k then mg mx mn (rk.getD q 0) else rk.getD q 0) = rkf (fun q => if q < k + 1 then mg mx mn (rk.getD q 0) else rk.getD q 0) from rkf_congr (fun q _ => by
                  by_cases e : q = k
                  · subst e
                    rw [if_neg (Nat.lt_irrefl q), if_pos (by omega), ← HZ.out]
                    exact (if_neg hzm).symm
                  · by_cases h : q < k
                    · rw [if_pos h, if_pos (by omega)]
                    · rw [if_neg h, if_neg (by omega)]))
                clear hzm
                go_wp2
                go_roundg (gk - 1)
                case measure => have := HK.out; omega
                case rel => exact ⟨k + 1, by first | exact congrArg (Value.int .i64) HW1.out | rfl | go_num | (simp; done), ⟨by have := HK24.out; omega, by have := HK.out; omega⟩, HA, HC, ⟨by rw [← HN.out]; exact HH.out⟩, HB⟩
            · have hk24 : k = 24 := by have := HK.out; omega
              have d6 : decide ((k : Int) < 24) = false := by rw [decide_eq_false_iff_not]; omega
              have HH5 := Aside0.mk (show wr.heap[w1.heap.size]? = some (.cells (rkf (fun q => (rkAt xs ys (i + 1)).getD q 0)) 37 (0, 0)) by
                rw [HH.out]
                have : rkf (fun q => if q < k then mg mx mn (rk.getD q 0) else rk.getD q 0) = rkf (fun q => (rkAt xs ys (i + 1)).getD q 0) := rkf_congr (fun q hq => by
                  rw [if_pos (by omega), HMG.out q hq])
                rw [this])
              have HA5 := Aside0.mk (show (Kd.int .i64).R 3 wr w1.heap.size (fun q => q ≠ w1.heap.size) v63 (rowA (psOf xs ys (i + 1))) by rw [rowA_succ, ← HV.out]; exact HA.out)
              have HC5 := Aside0.mk (show (Kd.int .i64).R 3 wr w1.heap.size (fun q => q ≠ w1.heap.size) v68 (rowB (psOf xs ys (i + 1))) by rw [rowB_succ, ← HU.out]; exact HC.out)
              have HW2 := Aside0.mk (wrap_nat i (by have := H20.out; omega))
              have HI20 := Aside0.mk hi
              clear hk hk24 HH HA HC HMG hi d5
              go_wp2
              go_roundg (go - 1)
              case measure => have := HI.out; have := HGO.out; omega
              case rel => exact ⟨i + 1, by first | exact congrArg (Value.int .i64) HW2.out | rfl | go_num | (simp; done), ⟨by have := HI20.out; omega, by have := HI.out; have := HGO.out; omega⟩, HA5, HC5, HNE3, HH5, HB⟩
        · have hil : i = xs.length := by have := HI.out; omega
          subst hil
          have d0 : decide ((xs.length : Int) < (xs.length : Int)) = false := by rw [decide_eq_false_iff_not]; omega
          have h20 : xs.length ≤ 20 := by have := H20.out; omega
          have HMEM := Aside0.mk (psOf_mem xs ys xs.length)
          have hps : (psOf xs ys xs.length).length = xs.length := psOf_len xs ys xs.length
          have HBW := Aside0.mk (below_step HB1.out HB.out)
          have HGW := Aside0.mk (Glob.below HG1.out HB.out)
          obtain ⟨AP, cp, hua⟩ := Kd.R_slice HA.out
          obtain ⟨AQ, cq, hub⟩ := Kd.R_slice HC.out
          rw [rowA_len] at hua
          rw [rowB_len] at hub
          subst hua hub
          have HRA := Aside0.mk (Kd.R_reads' HA.out).2.2
          have HRB := Aside0.mk (Kd.R_reads' HC.out).2.2
          have HCA := Aside0.mk (Kd.R_reads' HA.out).2.1
          have HCB := Aside0.mk (Kd.R_reads' HC.out).2.1
          clear hi HI HA HC HNE
          obtain ⟨rk, hrk⟩ : ∃ rk, rk = rkAt xs ys xs.length := ⟨_, rfl⟩
          have HRK := Aside0.mk (show RkOk rk by rw [hrk]; exact rkAt_ok xs ys _)
          have HM := Aside0.mk (show unifyV words4 (rowA (psOf xs ys xs.length)) (rowB (psOf xs ys xs.length)) = (rkL rk 24, true, 0) by rw [hrk]; exact unify_vars words4_sign _ (by omega) HMEM.out)
          rw [← hrk] at HH
          obtain ⟨ra, hra⟩ : ∃ ra, ra = rowA (psOf xs ys xs.length) := ⟨_, rfl⟩
          obtain ⟨rb, hrb⟩ : ∃ rb, rb = rowB (psOf xs ys xs.length) := ⟨_, rfl⟩
          have HLA := Aside0.mk (show ra.length = xs.length ∧ rb.length = xs.length by rw [hra, hrb]; exact ⟨rowA_len .., rowB_len ..⟩)
          rw [← hra] at HRA HM
          rw [← hrb] at HRB HM
          clear hrk hra hrb hps h20 HMEM
          go_wp2_with fail
          refine (quaerelaw4_words.calls words4 _ words4_eq).mono ?_
          rintro e w2 ⟨v2, rfl, hR2, hb2⟩
          obtain ⟨AW, cw, rfl⟩ := Kd.R_slice hR2
          have HRW := Aside0.mk (Kd.R_reads' hR2).2.2
          have HCW := Aside0.mk (Kd.R_reads' hR2).2.1
          have HB2 := Aside0.mk hb2
          clear hR2 hb2
          go_wp2_with fail
          have hun := unify_Unify.calls AW cw words4 AP cp ra AQ cq rb (rkL rk 24) true 0 w2 HRW.out HCW.out (Kd.C_below HRA.out HB2.out) (by rw [HLA.out.1]; exact HCA.out) (Kd.C_below HRB.out HB2.out) (by rw [HLA.out.2]; exact HCB.out) (by unfold unify_Unify.f; rw [HM.out]) (Glob.below HGW.out HB2.out)
          rw [HLA.out.1, HLA.out.2] at hun
          refine hun.mono ?_
          clear hun
          rintro e w3 ⟨v3, rfl, hS3, hb3⟩
          have HS3 := Aside0.mk hS3
          have HB3 := Aside0.mk (below_step HB2.out hb3)
          have HH3 := Aside0.mk (blk_below HH.out HB3.out)
          have HBW3 := Aside0.mk (below_step HBW.out HB3.out)
          clear hS3 hb3 HB2 HRW HCW HRA HRB HCA HCB HM HLA HGW HB HH HG1 HBW
          go_wp2_with fail
          refine (quaerelaw0_Num.calls 0 0 _ rfl).mono ?_
          rintro e w4 ⟨rfl, hd4⟩
          have HS4 := Aside0.mk (Kd.S_below HS3.out hd4.below)
          have HH4 := Aside0.mk (blk_below HH3.out hd4.below)
          have HBW4 := Aside0.mk (below_step HBW3.out hd4.below)
          have HSZ := Aside0.mk (below_size hd4.below)
          clear hd4 HS3 HH3 HBW3
          obtain ⟨AV, cv, rfl⟩ := Kd.S_slice HS4.out
          have hlen := rkL_len rk 24
          have HLEN := Aside0.mk hlen
          obtain ⟨S, hS⟩ : ∃ S, S = rkL rk 24 := ⟨_, rfl⟩
          rw [← hS] at HS4 HLEN ⊢
          have HS := Aside0.mk hS
          clear hS hlen
          go_wp2
          go_loopg [18, 19] 25 (fun kq v18 v19 w' => ∃ (v : Nat), v19 = .int .i64 (v : Int) ∧ v18 = .int .i64 ((rkL rk v).length : Int) ∧ Aside0 (v ≤ 24 ∧ kq + v = 25) ∧ Aside0 (Below w4.heap.size w4 w'))
          case atStart => exact ⟨0, rfl, rfl, ⟨by omega, by omega⟩, ⟨Below.refl _ _⟩⟩
          case round =>
            obtain ⟨v, rfl, rfl, HV, HB⟩ := hrel
            have HR4 := Aside0.mk (blk_below HH4.out HB.out)
            have HRS := Aside0.mk (Kd.S_reads' (Kd.S_below HS4.out HB.out))
            by_cases hv : v < 24
            · have hv0 : (0 : Int) ≤ (v : Int) := by omega
              have hv1 : (v : Int) < 24 := by omega
              have d0 : decide ((v : Int) < 24) = true := by rw [decide_eq_true_eq]; omega
              have HW1 := Aside0.mk (wrap_nat v (by omega))
              have HV24 := Aside0.mk hv
              obtain ⟨z, hz⟩ : ∃ z, z = rk.getD v 0 := ⟨_, rfl⟩
              have hz24 : z < 24 := by have := HRK.out.le v hv; omega
              have hxc : wr.cell? ⟨w1.heap.size, v, none⟩ = some (.int .i64 (z : Int)) := by
                rw [blk_cell HR4.out v, rkf_at _ v hv, hz]
              clear hv
              by_cases hzv : z = v
              · have d1 : decide ((z : Int) = (v : Int)) = true := by rw [decide_eq_true_eq]; omega
                have d2 : ((z : Int) == (v : Int)) = true := by simp; omega
                have HN := Aside0.mk (rkL_same rk (v := v) (by omega))
                clear hz hzv
                go_wp2
                go_roundg (gk - 1)
                case measure => have := HV.out; omega
                case rel => exact ⟨v + 1, by first | exact congrArg (Value.int .i64) HW1.out | rfl | go_num | (simp; done), by rw [HN.out], ⟨by have := HV24.out; omega, by have := HV.out; omega⟩, HB⟩
              · have d1 : decide ((z : Int) = (v : Int)) = false := by rw [decide_eq_false_iff_not]; omega
                have d2 : ((z : Int) == (v : Int)) = false := by simp; omega
                obtain ⟨q1, q2, q3⟩ := rkL_at rk HV24.out (by rw [← hz]; exact hzv)
                rw [← HS.out] at q1 q2
                obtain ⟨n, hn⟩ : ∃ n, n = (rkL rk v).length := ⟨_, rfl⟩
                rw [← hn] at q1 q2 q3 ⊢
                rw [← hz] at q2
                have hn0 : (0 : Int) ≤ (n : Int) := by omega
                have hn1 : (n : Int) < (S.length : Int) := by omega
                obtain ⟨ad, A1, k1, rfl, hc1, hc2, hc3, hc4⟩ := at_T41 HRS.out.2.2 (n : Int) hn0 hn1
                rw [q2] at hc1 hc2 hc3 hc4
                rw [Int.toNat_natCast] at hc1 hc2
                simp only [List.length_singleton] at hc2 hc3 hc4
                have d3 : decide ((S.length : Int) ≤ (n : Int)) = false := by rw [decide_eq_false_iff_not]; omega
                have d5 : decide (S.length ≤ n) = false := by rw [decide_eq_false_iff_not]; omega
                have d4 : ((v : Int) != (v : Int)) = false := by simp
                have hwz : IntKind.i64.wrap (-1 - (z : Int)) = -1 - (z : Int) := IntWalk.i64_in _ (by omega)
                have HN3 := Aside0.mk q3
                have HC3 := Aside0.mk hc3
                have HC4 := Aside0.mk hc4
                have HW2 := Aside0.mk (wrap_nat n (by have := HLEN.out; omega))
                clear hz hzv q1 q2 q3 hc3 hc4 hn
                have HKEEP := Aside0.mk (show ∀ w', Below wr.heap.size wr w' → w'.cell? ⟨w1.heap.size, v, none⟩ = some (.int .i64 (z : Int)) ∧ w'.cell? (ad.add (n * 2)) = some (.int .i64 (v : Int)) ∧ w'.cell? ⟨(ad.add (n * 2)).block, (ad.add (n * 2)).off + 1, none⟩ = some (.slice A1 1 k1) from fun w' h => ⟨pw_cell_below h hxc, pw_cell_below h hc1, pw_cell_below h hc2⟩)
                obtain ⟨ks, hks⟩ := (sameInts_ev [-1 - (z : Int)] [-1 - (z : Int)] (by rw [List.length_singleton]; decide)).rounds
                have HKS := Aside0.mk (show quaerelaw0_SameInts.f ks [-1 - (z : Int)] [-1 - (z : Int)] = some true by rw [hks]; simp)
                clear hks
                have HSAME := Aside0.mk (show ∀ (W : World) (A B : Option Addr) (p q : Nat), Kd.C (Kd.int .i64) W A 1 [-1 - (z : Int)] → 1 ≤ p → Kd.C (Kd.int .i64) W B 1 [-1 - (z : Int)] → 1 ≤ q → Calls Tryd.prog 18 #[.slice A 1 p, .slice B 1 q] W fun e w' => e = .returned (.bool true) ∧ Drawn0 W w' from fun W A B p q h1 h2 h3 h4 => quaerelaw0_SameInts.calls ks A p [-1 - (z : Int)] B q [-1 - (z : Int)] true W h1 h2 h3 h4 HKS.out)
                go_wp2
                go_region_held3 (fun w' => w'.cell? ⟨w1.heap.size, v, none⟩ = some (.int .i64 (z : Int)) ∧ w'.cell? (ad.add (n * 2)) = some (.int .i64 (v : Int)) ∧ w'.cell? ⟨(ad.add (n * 2)).block, (ad.add (n * 2)).off + 1, none⟩ = some (.slice A1 1 k1))
                  (first | (refine HKEEP.out _ ?_; (repeat (first | exact Below.refl _ _ | exact hbw | apply below_drew1 | apply below_alloc)); done))
                  (first | (go_at_call 18; (with_reducible refine (HSAME.out _ _ _ _ _ ?sA ?sB ?sC ?sD).mono ?_); (case sA => exact Kd.C_below HC4.out (by repeat (first | exact Below.refl _ _ | apply below_drew1 | apply below_alloc))); (case sB => exact HC3.out); (case sC => exact C_one (by repeat (first | exact Below.refl _ _ | apply below_drew1))); (case sD => exact Nat.le_refl 1); rintro e w5 ⟨rfl, hd5⟩; have hbw := below_step (show Below wr.heap.size wr _ from by repeat (first | exact Below.refl _ _ | apply below_drew1 | apply below_alloc)) hd5.below))
                have HB5 := Aside0.mk (below_step HB.out hbw)
                clear hbw hd5 HB HR4 HRS HKEEP
                go_wp2
                go_roundg (gk - 1)
                case measure => have := HV.out; omega
                case rel => exact ⟨v + 1, by first | exact congrArg (Value.int .i64) HW1.out | rfl | go_num | (simp; done), by rw [HN3.out]; first | exact congrArg (Value.int .i64) HW2.out | rfl | go_num | (simp; done), ⟨by have := HV24.out; omega, by have := HV.out; omega⟩, HB5⟩
            · have hv24 : v = 24 := by have := HV.out; omega
              have d0 : decide ((v : Int) < 24) = false := by rw [decide_eq_false_iff_not]; omega
              subst hv24
              have hl : (rkL rk 24).length = S.length := by rw [HS.out]
              rw [hl]
              have HBE := Aside0.mk (below_step HBW4.out HB.out)
              clear hv hl HV HB HR4 HRS
              go_wp2
              go_ret
              exact ⟨by first | rfl | (simp; done), HBE.out⟩
end Go.Proofs.YtaegdhpcnpojnaaDoor.PU
