/- Bind's Then: its walk. -/
import Derived.Test.YtaegdhpcnpojnaaDoorApply
import Derived.Test.YtaegdhpcnpojnaaDoorPUx0
import Derived.Test.YtaegdhpcnpojnaaDoorPUx4
import Derived.Test.YtaegdhpcnpojnaaDoorPUx5
import Derived.Test.YtaegdhpcnpojnaaDoorPUx19
namespace Go.Proofs.YtaegdhpcnpojnaaDoor.PU
open Go Go.RowKit Go.Proofs.YtaegdhpcnpojnaaDoorW.PrintWords Go.Proofs.YtaegdhpcnpojnaaDoorW.PrintLast Go.Proofs.YtaegdhpcnpojnaaDoorW.PrintMore Go.Proofs.YtaegdhpcnpojnaaDoor
set_option linter.unusedVariables false
set_option linter.unusedSimpArgs false
/-- What stands for a variable behind two binds; nothing: no codes. -/
def thenT (s u : List S41) (v : Int) : List Int := if bfindV s v = [] then bfindV u v else onV u (bfindV s v)
def thenS (s u : List S41) : Nat → List S41
  | 0 => []
  | n + 1 => thenS s u n ++ (if thenT s u (n : Int) = [] ∨ thenT s u (n : Int) = [-1 - (n : Int)] then [] else [⟨(n : Int), thenT s u (n : Int)⟩])
open Classical in
noncomputable def thenV (l : List S66) (s u : List S41) : List S41 × Int :=
  if BindsOk l s ∧ BindsOk l u then (if ∃ v : Nat, v < 24 ∧ 48 < (thenT s u (v : Int)).length then ([], 301) else (thenS s u 24, 0)) else ([], 300)
theorem thenS_length (s u : List S41) : ∀ n, (thenS s u n).length ≤ n
  | 0 => by simp [thenS]
  | n + 1 => by
    have := thenS_length s u n
    simp only [thenS, List.length_append]
    split <;> simp <;> omega
theorem bindInfoT : (Tryd.prog.info? 41).map (fun i => (i.zero, i.size, i.bytes)) = some (some (.agg #[.int .i64 0, .slice none 0 0]), 2, 32) := by kernel_rfl
theorem el_partsT {α β : Type} {d : Kd α} {d' : Kd β} {e e' base : Nat} {W w1 : World} {u v : Value} {xs : List α} {ys : List β} (ho : d'.R e' w1 W.heap.size (fun _ => True) v ys) (hb : Below W.heap.size W w1) (hs : Kd.S d e W base (fun _ => True) u xs) (hl : base ≤ W.heap.size) :
    ∃ N, (∀ k, N ≤ k → True ∧ some k ≠ u.ownBlock) ∧ Kd.S d e w1 base (fun k => True ∧ ¬ N ≤ k) u xs ∧ d'.R e' w1 base (fun k => N ≤ k) v ys :=
  ⟨W.heap.size, fun k hk => ⟨trivial, fun e => Nat.lt_irrefl _ (Nat.lt_of_lt_of_le (Kd.S_lt hs k e.symm) hk)⟩, Kd.S_mono (Kd.S_old hs hb) (fun k hk => ⟨trivial, by have := hk.2; omega⟩), Kd.R_lower (Kd.R_mono (Kd.R_bound ho) (fun k hk => hk.2.1)) hl⟩
theorem alone_ev (t : List Int) (v : Nat) (hv : v ≤ 1000) : bind_alone.f t (v : Int) = some (decide (t = [-1 - (v : Int)])) := alone_f t v (by omega) (by omega)
theorem bindsOk_len48 {l : List S66} {s : List S41} (h : BindsOk l s) (v : Int) : (bfindV s v).length ≤ 48 := by
  rcases bfindV_mem s v with e | ⟨b, hb, _, e⟩
  · rw [e]; simp
  · rw [← e]; exact (bindsOk_mem h hb).2.2.1.2.1
theorem bindsOk_alone {l : List S66} {s : List S41} (h : BindsOk l s) (v : Int) : bfindV s v ≠ [-1 - v] := by
  rcases bfindV_mem s v with e | ⟨b, hb, h0, e⟩
  · rw [e]; simp
  · rw [← e, ← h0]; exact (bindsOk_mem h hb).2.2.2
theorem bindsOk_codes {l : List S66} {s : List S41} (h : BindsOk l s) (v : Int) : (bfindV s v).length ≤ 60 ∧ ∀ c ∈ bfindV s v, -24 ≤ c ∧ c ≤ 1000 := by
  refine ⟨by have := bindsOk_len48 h v; omega, fun c hc => ?_⟩
  rcases bfindV_mem s v with e | ⟨b, hb, h0, e⟩
  · rw [e] at hc; cases hc
  · rw [← e] at hc
    have h1 := codes_row (bindsOk_mem h hb).2.2.1.2.2 c hc
    have h2 := h.1.2.1
    omega
theorem onV_ne {l : List S66} {u : List S41} (h : BindsOk l u) {t : List Int} (ht : t ≠ []) : onV u t ≠ [] := by
  match t, ht with
  | c :: r, _ =>
    simp only [onV]
    intro e
    have e1 := (List.append_eq_nil_iff.1 e).1
    unfold putV at e1
    split at e1
    · cases e1
    · split at e1
      · cases e1
      · rename_i hne; exact hne e1
theorem r_some {e base : Nat} {ok : Nat → Prop} {w : World} {v : Value} {xs : List Int} (h : (Kd.int .i64).R e w base ok v xs) (hn : 0 < xs.length) : ∃ (ad : Addr) (c : Nat), v = .slice (some ad) xs.length c := by
  obtain ⟨A, c, rfl⟩ := Kd.R_slice h
  obtain ⟨_, _, hC⟩ := Kd.R_reads' h
  obtain ⟨ad, hh, _⟩ := hC.2.2 hn
  exact ⟨ad, c, by rw [hh]⟩
theorem clone_nil (w : World) : Calls Tryd.prog 26 #[.slice none 0 0] w fun e w' => e = .returned (.slice none 0 0) ∧ Below w.heap.size w w' := by
  have qn : ∀ (w : World) (a : Option Addr) (n c n' c' : Nat), (binOp .eql 23 (.slice a n c) (.slice none n' c')).run Tryd.prog w = .ok (.bool a.isNone) w := fun w a n c n' c' => Lib.run_eql_slice_nil w _ _ a n c n' c' Tryd.underlying23
  have HB := Aside0.mk (Below.refl w.heap.size w)
  go_enter Tryd.func26, Tryd.ntmps26
  go_wp2
  go_ret
  exact ⟨rfl, HB.out⟩
theorem on_nil (A0 : Option Addr) (n c0 : Nat) (w : World) : Calls Tryd.prog 32 #[.slice A0 n c0, .slice none 0 0] w fun e w' => e = .returned (.slice none 0 0) ∧ Below w.heap.size w w' := by
  have qn : ∀ (w : World) (a : Option Addr) (n c n' c' : Nat), (binOp .eql 23 (.slice a n c) (.slice none n' c')).run Tryd.prog w = .ok (.bool a.isNone) w := fun w a n c n' c' => Lib.run_eql_slice_nil w _ _ a n c n' c' Tryd.underlying23
  go_enter Tryd.func32, Tryd.ntmps32
  go_wp2
  go_loopg [5, 11] 1 (fun kq v5 v11 w' => v5 = .slice none 0 0 ∧ v11 = .int .i64 0 ∧ Aside0 (Below w.heap.size w w'))
  case atStart => exact ⟨rfl, rfl, ⟨Below.refl _ _⟩⟩
  case round =>
    obtain ⟨rfl, rfl, HB⟩ := hrel
    go_wp2
    go_ret
    exact ⟨rfl, HB.out⟩
theorem clone_calls (A0 : Option Addr) (c0 : Nat) (t : List Int) (w : World) (hr0 : Kd.C (Kd.int .i64) w A0 t.length t) (hc0 : t.length ≤ c0) (hl : t.length ≤ 48) :
    Calls Tryd.prog 26 #[.slice A0 t.length c0] w fun e w' => ∃ v : Value, e = .returned v ∧ Kd.R (Kd.int .i64) 3 w' w.heap.size (fun _ => True) v t ∧ Below w.heap.size w w' :=
  slices_Clone_int_int.calls A0 c0 t t w hr0 hc0 (by unfold slices_Clone_int_int.f; rw [if_pos (by omega)])
set_option maxHeartbeats 2000000 in
set_option maxRecDepth 100000 in
theorem then_calls (A0 : Option Addr) (c0 : Nat) (l : List S66) (A1 : Option Addr) (c1 : Nat) (s : List S41) (A2 : Option Addr) (c2 : Nat) (u : List S41) (w : World)
    (hr0 : Kd.C k66 w A0 l.length l) (hc0 : l.length ≤ c0) (hr1 : Kd.C k41 w A1 s.length s) (hc1 : s.length ≤ c1) (hr2 : Kd.C k41 w A2 u.length u) (hc2 : u.length ≤ c2) (hG : Glob w) :
    Calls Tryd.prog 21 #[.slice A0 l.length c0, .slice A1 s.length c1, .slice A2 u.length c2] w fun e w' =>
      ∃ v, e = .returned (.tuple #[v, .int .i64 (thenV l s u).2]) ∧ Kd.S k41 41 w' w.heap.size (fun _ => True) v (thenV l s u).1 ∧ Below w.heap.size w w' := by
  classical
  have qn : ∀ (w : World) (a : Option Addr) (n c n' c' : Nat), (binOp .eql 23 (.slice a n c) (.slice none n' c')).run Tryd.prog w = .ok (.bool a.isNone) w := fun w a n c n' c' => Lib.run_eql_slice_nil w _ _ a n c n' c' Tryd.underlying23
  have qm : ∀ (w : World) (a : Option Addr) (n c n' c' : Nat), (binOp .neq 23 (.slice a n c) (.slice none n' c')).run Tryd.prog w = .ok (.bool (!a.isNone)) w := fun w a n c n' c' => run_neq_slice_nil_any w _ _ a n c n' c' Tryd.underlying23
  have hub := Tryd.underlying41
  obtain ⟨⟨r1, r2⟩, hR⟩ : ∃ R, thenV l s u = R := ⟨_, rfl⟩
  rw [hR]
  show Calls Tryd.prog 21 #[.slice A0 l.length c0, .slice A1 s.length c1, .slice A2 u.length c2] w fun e w' => ∃ v, e = .returned (.tuple #[v, .int .i64 r2]) ∧ Kd.S k41 41 w' w.heap.size (fun _ => True) v r1 ∧ Below w.heap.size w w'
  have HM := Aside0.mk hR
  have HR0 := Aside0.mk hr0
  have HR1 := Aside0.mk hr1
  have HR2 := Aside0.mk hr2
  have HC0 := Aside0.mk hc0
  have HC1 := Aside0.mk hc1
  have HC2 := Aside0.mk hc2
  clear hR hr0 hr1 hr2 hc0 hc1 hc2
  go_enter Tryd.func21, Tryd.ntmps21
  go_wp2_with fail
  by_cases hbs : BindsOk l s
  · refine (bind_May.calls A0 c0 l A1 c1 s true w HR0.out HC0.out HR1.out HC1.out (by unfold bind_May.f; simp [hbs]) hG).mono ?_
    rintro e w1 ⟨rfl, hb1⟩
    have HB1 := Aside0.mk hb1
    clear hb1
    go_wp2_with fail
    by_cases hbu : BindsOk l u
    · refine (bind_May.calls A0 c0 l A2 c2 u true w1 (Kd.C_below HR0.out HB1.out) HC0.out (Kd.C_below HR2.out HB1.out) HC2.out (by unfold bind_May.f; simp [hbu]) (hG.below HB1.out)).mono ?_
      rintro e w2 ⟨rfl, hb2⟩
      have HB2 := Aside0.mk (below_step HB1.out hb2)
      have HBS := Aside0.mk hbs
      have HBU := Aside0.mk hbu
      have hM := HM.out
      unfold thenV at hM
      rw [if_pos ⟨hbs, hbu⟩] at hM
      have HM2 := Aside0.mk hM
      have hul := bindsOk_len hbu
      have hsl := bindsOk_len hbs
      have HUL := Aside0.mk (show u.length ≤ 1000 by omega)
      have HSL := Aside0.mk (show s.length ≤ 1000 by omega)
      have HSN := Aside0.mk (show ∀ b ∈ s, b.f1 ≠ [] from fun b hb => (row_ne (bindsOk_mem hbs hb).2.2.1).1)
      have HUN := Aside0.mk (show ∀ b ∈ u, b.f1 ≠ [] from fun b hb => (row_ne (bindsOk_mem hbu hb).2.2.1).1)
      have HU48 := Aside0.mk (show ∀ b ∈ u, b.f1.length ≤ 48 from fun b hb => (row_ne (bindsOk_mem hbu hb).2.2.1).2)
      clear hb2 HB1 hM HM hbs hbu hul hsl hG
      go_wp2
      go_loopg [8, 21] 25 (fun kq v8 v21 w' => ∃ (i : Nat), v21 = .int .i64 (i : Int) ∧ Aside0 (i ≤ 24 ∧ kq + i = 25) ∧ Aside0 (∀ v : Nat, v < i → ¬ 48 < (thenT s u (v : Int)).length) ∧ Aside0 (Kd.S k41 41 w' w.heap.size (fun _ => True) v8 (thenS s u i)) ∧ Aside0 (Below w.heap.size w w'))
      case atStart => exact ⟨0, rfl, ⟨by omega, by omega⟩, ⟨fun v hv => by omega⟩, ⟨Kd.S_nil _ _ _ _ _⟩, HB2⟩
      case round =>
        obtain ⟨i, rfl, HI, HSH, HO, HBW⟩ := hrel
        by_cases hi : i < 24
        · have hi0 : (0 : Int) ≤ (i : Int) := by omega
          have hi1 : (i : Int) < 24 := hi |> fun h => by omega
          have d0 : decide ((i : Int) < 24) = true := by rw [decide_eq_true_eq]; omega
          have HW1 := Aside0.mk (wrap_nat i (by omega))
          have HI24 := Aside0.mk hi
          clear hi HB2
          go_wp2_with fail
          refine (bfind_calls A1 c1 s (i : Int) wr (Kd.C_below HR1.out HBW.out) HC1.out HSL.out HSN.out).mono ?_
          obtain ⟨f, hf⟩ : ∃ f, f = bfindV s (i : Int) := ⟨_, rfl⟩
          rw [← hf]
          have HF := Aside0.mk hf
          clear hf
          rintro e w3 ⟨x, rfl, ⟨XA, xc, rfl, hxl, hxC, hxn, hxs⟩, hb3⟩
          have HB3 := Aside0.mk (below_step HBW.out hb3)
          have HO3 := Aside0.mk (Kd.S_below HO.out hb3)
          have HXC := Aside0.mk (Kd.C_below hxC hb3)
          have HXL := Aside0.mk hxl
          clear hb3 hxC hxl HO HBW
          by_cases hfn : f = []
          · obtain ⟨rfl, rfl⟩ := hxn hfn
            have HT := Aside0.mk (show thenT s u (i : Int) = bfindV u (i : Int) by unfold thenT; rw [if_pos (by rw [← HF.out]; exact hfn)])
            subst hfn
            clear hxn hxs HXC HXL HF
            go_wp2_with fail
            refine (on_nil A2 u.length c2 w3).mono ?_
            rintro e w4 ⟨rfl, hb4⟩
            have HB4 := Aside0.mk (below_step HB3.out hb4)
            have HO4 := Aside0.mk (Kd.S_below HO3.out hb4)
            clear hb4 HB3 HO3
            go_wp2_with fail
            refine (bfind_calls A2 c2 u (i : Int) _ (Kd.C_below HR2.out HB4.out) HC2.out HUL.out HUN.out).mono ?_
            obtain ⟨f, hf⟩ : ∃ f, f = bfindV u (i : Int) := ⟨_, rfl⟩
            rw [← hf]
            rintro e w5 ⟨x, rfl, ⟨XA, xc, rfl, hxl, hxC, hxn, hxs⟩, hb5⟩
            have HB5 := Aside0.mk (below_step HB4.out hb5)
            have HO5 := Aside0.mk (Kd.S_below HO4.out hb5)
            have HXC := Aside0.mk (Kd.C_below hxC hb5)
            have HXL := Aside0.mk hxl
            have HF48 := Aside0.mk (show f.length ≤ 48 by rw [hf]; exact bindsOk_len48 HBU.out _)
            have HFA := Aside0.mk (show f ≠ [-1 - (i : Int)] by rw [hf]; exact bindsOk_alone HBU.out _)
            have HT2 := Aside0.mk (show thenT s u (i : Int) = f by rw [hf]; exact HT.out)
            clear hb5 hxC hxl HO4 HB4 hf HT
            by_cases hfn : f = []
            · obtain ⟨rfl, rfl⟩ := hxn hfn
              subst hfn
              have HLS := Aside0.mk (show thenS s u (i + 1) = thenS s u i by simp only [thenS]; rw [if_pos (.inl HT2.out)]; simp)
              have HSH2 := Aside0.mk (show ∀ v : Nat, v < i + 1 → ¬ 48 < (thenT s u (v : Int)).length from fun v hv => by
                rcases Nat.lt_or_ge v i with h | h
                · exact HSH.out v h
                · obtain rfl : v = i := by omega
                  rw [HT2.out]; simp)
              clear hxn hxs HXC HXL
              go_wp2_with fail
              refine (clone_nil w5).mono ?_
              rintro e w6 ⟨rfl, hb6⟩
              have HB6 := Aside0.mk (below_step HB5.out hb6)
              have HO6 := Aside0.mk (Kd.S_below HO5.out hb6)
              clear hb6
              go_wp2
              go_roundg (gk - 1)
              case measure => have := HI.out; omega
              case rel => exact ⟨i + 1, by first | exact congrArg (Value.int .i64) HW1.out | rfl | go_num | (simp; done), ⟨by have := HI24.out; omega, by have := HI.out; omega⟩, HSH2, ⟨by rw [HLS.out]; exact HO6.out⟩, HB6⟩
            · have HFN := Aside0.mk hfn
              clear hxn hxs
              go_wp2_with fail
              refine (clone_calls XA xc f w5 HXC.out HXL.out HF48.out).mono ?_
              rintro e w6 ⟨v6, rfl, hR6, hb6⟩
              obtain ⟨ra, rc, rfl⟩ := r_some hR6 (List.length_pos_iff.2 hfn)
              have hrC := (Kd.R_reads' hR6)
              have HB6 := Aside0.mk (below_step HB5.out hb6)
              have HO6 := Aside0.mk (Kd.S_below HO5.out hb6)
              have HR6 := Aside0.mk hR6
              have HBB6 := Aside0.mk hb6
              have HRC := Aside0.mk hrC
              have d1 : decide ((48 : Int) < (f.length : Int)) = false := by rw [decide_eq_false_iff_not]; have := HF48.out; omega
              have d2 : decide (48 < f.length) = false := by rw [decide_eq_false_iff_not]; have := HF48.out; omega
              clear hb6 hR6 hrC hfn
              go_wp2_with fail
              refine (bind_alone.calls (some ra) rc f (i : Int) false w6 HRC.out.2.2 HRC.out.2.1 (by rw [alone_ev f i (by have := HI24.out; omega), decide_eq_false HFA.out])).mono ?_
              rintro e w7 ⟨rfl, ⟨nd, rfl⟩⟩
              have HB7 := Aside0.mk (pw_below_drewN HB6.out nd)
              obtain ⟨N, hN, hout, hel⟩ := el_partsT (Kd.R_drewN HR6.out nd) (pw_below_drewN HBB6.out nd) HO5.out (below_size HB5.out)
              have HOUT5 := Aside0.mk hout
              have HEL := Aside0.mk hel
              have HN := Aside0.mk hN
              have HLS := Aside0.mk (show thenS s u (i + 1) = thenS s u i ++ [⟨(i : Int), f⟩] by simp only [thenS]; rw [HT2.out, if_neg (fun h => h.elim HFN.out HFA.out)])
              have HSH2 := Aside0.mk (show ∀ v : Nat, v < i + 1 → ¬ 48 < (thenT s u (v : Int)).length from fun v hv => by
                rcases Nat.lt_or_ge v i with h | h
                · exact HSH.out v h
                · obtain rfl : v = i := by omega
                  rw [HT2.out]; have := HF48.out; omega)
              clear hout hel hN
              go_wp2_with (first | ((with_reducible refine gate_builtin (b := .append) (xs := #[.tmp 46, .tmp 50]) rfl ?_); at_builtin; refine Kd.S_append k41 (w0 := w) w.heap.size rfl (.tmp 46) (.tmp 50) 25 41 (.agg #[.int .i64 0, .slice none 0 0]) 32 rfl Tryd.underlying25 bindInfoT rfl (by decide) (by omega) u8 (thenS s u i) (⟨(i : Int), f⟩ : S41) [.int .i64 (i : Int), .slice (some ra) f.length rc] (fun _ => True) (fun k => N ≤ k) rfl rfl ?hp HN.out (fun _ _ => trivial) ?hO ?hB ?hs ?hl ?_; (case hp => exact k41_mkM _ _ _ _ HEL.out); (case hO => exact HOUT5.out); (case hB => exact HB7.out); (case hs => exact below_size HB7.out); (case hl => have := thenS_length s u i; have := HI.out; omega); intro v9 w9 ho hb hg hat; have n0_ := Aside0.mk hb; have n1_ := Aside0.mk ho; clear ho hb hg hat))
              go_roundg (gk - 1)
              case measure => have := HI.out; omega
              case rel => exact ⟨i + 1, by first | exact congrArg (Value.int .i64) HW1.out | rfl | go_num | (simp; done), ⟨by have := HI24.out; omega, by have := HI.out; omega⟩, HSH2, ⟨by rw [HLS.out]; exact n1_.out⟩, n0_⟩
          · have HFX := Aside0.mk (show onV u f ≠ [] from onV_ne HBU.out hfn)
            obtain ⟨g, hg⟩ : ∃ g, g = onV u f := ⟨_, rfl⟩
            have HT2 := Aside0.mk (show thenT s u (i : Int) = g by unfold thenT; rw [← HF.out, if_neg hfn, hg])
            have HFN := Aside0.mk (show g ≠ [] by rw [hg]; exact HFX.out)
            have hcod := bindsOk_codes HBS.out (i : Int)
            rw [← HF.out] at hcod
            have hgl := onV_len HU48.out f
            rw [← hg] at hgl
            have hfl := bindsOk_len48 HBS.out (i : Int)
            rw [← HF.out] at hfl
            have HGL := Aside0.mk (show g.length ≤ 3000 by omega)
            have hon := on_calls A2 c2 u XA xc f w3 (Kd.C_below HR2.out HB3.out) HC2.out HXC.out HXL.out HUL.out HUN.out HU48.out hcod.1 hcod.2
            rw [← hg] at hon
            clear hxn hxs hg hcod hgl hfl hfn HFX
            go_wp2_with fail
            refine hon.mono ?_
            clear hon
            rintro e w6 ⟨v6, rfl, hR6, hb6⟩
            obtain ⟨ra, rc, rfl⟩ := r_some hR6 (List.length_pos_iff.2 HFN.out)
            have hrC := (Kd.R_reads' hR6)
            have HB6 := Aside0.mk (below_step HB3.out hb6)
            have HO6 := Aside0.mk (Kd.S_below HO3.out hb6)
            have HR6 := Aside0.mk hR6
            have HBB6 := Aside0.mk hb6
            have HRC := Aside0.mk hrC
            clear hb6 hR6 hrC
            by_cases hlong : 48 < g.length
            · have hl := HM2.out
              rw [if_pos ⟨i, HI24.out, by rw [HT2.out]; exact hlong⟩] at hl
              simp only [Prod.mk.injEq] at hl
              obtain ⟨q1, q2⟩ := hl
              subst q1 q2
              have d1 : decide ((48 : Int) < (g.length : Int)) = true := by rw [decide_eq_true_eq]; omega
              have d2 : decide (48 < g.length) = true := by rw [decide_eq_true_eq]; omega
              clear hlong HM2
              go_wp2
              go_ret2
              exact ⟨_, rfl, Kd.S_nil _ _ _ _ _, HB6.out⟩
            · have HF48 := Aside0.mk (show g.length ≤ 48 by omega)
              have d1 : decide ((48 : Int) < (g.length : Int)) = false := by rw [decide_eq_false_iff_not]; omega
              have d2 : decide (48 < g.length) = false := by rw [decide_eq_false_iff_not]; omega
              clear hlong
              go_wp2_with fail
              by_cases hal : g = [-1 - (i : Int)]
              · refine (bind_alone.calls (some ra) rc g (i : Int) true w6 HRC.out.2.2 HRC.out.2.1 (by rw [alone_ev g i (by have := HI24.out; omega), decide_eq_true hal])).mono ?_
                rintro e w7 ⟨rfl, ⟨nd, rfl⟩⟩
                have HLS := Aside0.mk (show thenS s u (i + 1) = thenS s u i by simp only [thenS]; rw [if_pos (.inr (by rw [HT2.out]; exact hal))]; simp)
                have HSH2 := Aside0.mk (show ∀ v : Nat, v < i + 1 → ¬ 48 < (thenT s u (v : Int)).length from fun v hv => by
                  rcases Nat.lt_or_ge v i with h | h
                  · exact HSH.out v h
                  · obtain rfl : v = i := by omega
                    rw [HT2.out]; have := HF48.out; omega)
                clear hal
                go_wp2
                go_roundg (gk - 1)
                case measure => have := HI.out; omega
                case rel => exact ⟨i + 1, by first | exact congrArg (Value.int .i64) HW1.out | rfl | go_num | (simp; done), ⟨by have := HI24.out; omega, by have := HI.out; omega⟩, HSH2, ⟨by rw [HLS.out]; exact Kd.S_drewN HO6.out nd⟩, ⟨pw_below_drewN HB6.out nd⟩⟩
              · have HFA := Aside0.mk hal
                clear hal
                refine (bind_alone.calls (some ra) rc g (i : Int) false w6 HRC.out.2.2 HRC.out.2.1 (by rw [alone_ev g i (by have := HI24.out; omega), decide_eq_false HFA.out])).mono ?_
                rintro e w7 ⟨rfl, ⟨nd, rfl⟩⟩
                have HB7 := Aside0.mk (pw_below_drewN HB6.out nd)
                obtain ⟨N, hN, hout, hel⟩ := el_partsT (Kd.R_drewN HR6.out nd) (pw_below_drewN HBB6.out nd) HO3.out (below_size HB3.out)
                have HOUT5 := Aside0.mk hout
                have HEL := Aside0.mk hel
                have HN := Aside0.mk hN
                have HLS := Aside0.mk (show thenS s u (i + 1) = thenS s u i ++ [⟨(i : Int), g⟩] by simp only [thenS]; rw [HT2.out, if_neg (fun h => h.elim HFN.out HFA.out)])
                have HSH2 := Aside0.mk (show ∀ v : Nat, v < i + 1 → ¬ 48 < (thenT s u (v : Int)).length from fun v hv => by
                  rcases Nat.lt_or_ge v i with h | h
                  · exact HSH.out v h
                  · obtain rfl : v = i := by omega
                    rw [HT2.out]; have := HF48.out; omega)
                clear hout hel hN
                go_wp2_with (first | ((with_reducible refine gate_builtin (b := .append) (xs := #[.tmp 46, .tmp 50]) rfl ?_); at_builtin; refine Kd.S_append k41 (w0 := w) w.heap.size rfl (.tmp 46) (.tmp 50) 25 41 (.agg #[.int .i64 0, .slice none 0 0]) 32 rfl Tryd.underlying25 bindInfoT rfl (by decide) (by omega) u8 (thenS s u i) (⟨(i : Int), g⟩ : S41) [.int .i64 (i : Int), .slice (some ra) g.length rc] (fun _ => True) (fun k => N ≤ k) rfl rfl ?hp HN.out (fun _ _ => trivial) ?hO ?hB ?hs ?hl ?_; (case hp => exact k41_mkM _ _ _ _ HEL.out); (case hO => exact HOUT5.out); (case hB => exact HB7.out); (case hs => exact below_size HB7.out); (case hl => have := thenS_length s u i; have := HI.out; omega); intro v9 w9 ho hb hg hat; have n0_ := Aside0.mk hb; have n1_ := Aside0.mk ho; clear ho hb hg hat))
                go_roundg (gk - 1)
                case measure => have := HI.out; omega
                case rel => exact ⟨i + 1, by first | exact congrArg (Value.int .i64) HW1.out | rfl | go_num | (simp; done), ⟨by have := HI24.out; omega, by have := HI.out; omega⟩, HSH2, ⟨by rw [HLS.out]; exact n1_.out⟩, n0_⟩
        · have hi24 : i = 24 := by have := HI.out; omega
          have hl := HM2.out
          rw [if_neg (by rintro ⟨v, hv, h⟩; exact HSH.out v (by omega) h)] at hl
          have HO2 := Aside0.mk (show Kd.S k41 41 wr w.heap.size (fun _ => True) u8 (thenS s u 24) from by rw [← hi24]; exact HO.out)
          obtain ⟨L, hL⟩ : ∃ L, L = thenS s u 24 := ⟨_, rfl⟩
          rw [← hL] at hl HO2
          simp only [Prod.mk.injEq] at hl
          obtain ⟨q1, q2⟩ := hl
          subst q1 q2
          have d1 : decide ((i : Int) < 24) = false := by rw [decide_eq_false_iff_not]; omega
          clear hi hL HM2 HO
          go_wp2
          go_ret2
          exact ⟨_, rfl, HO2.out, HBW.out⟩
    · refine (bind_May.calls A0 c0 l A2 c2 u false w1 (Kd.C_below HR0.out HB1.out) HC0.out (Kd.C_below HR2.out HB1.out) HC2.out (by unfold bind_May.f; simp [hbu]) (hG.below HB1.out)).mono ?_
      rintro e w2 ⟨rfl, hb2⟩
      have HB2 := Aside0.mk (below_step HB1.out hb2)
      have hM := HM.out
      unfold thenV at hM
      rw [if_neg (fun h => hbu h.2)] at hM
      simp only [Prod.mk.injEq] at hM
      obtain ⟨q1, q2⟩ := hM
      subst q1 q2
      clear hb2 HB1 HM hbs hbu hG
      go_wp2
      go_ret2
      exact ⟨_, rfl, Kd.S_nil _ _ _ _ _, HB2.out⟩
  · refine (bind_May.calls A0 c0 l A1 c1 s false w HR0.out HC0.out HR1.out HC1.out (by unfold bind_May.f; simp [hbs]) hG).mono ?_
    rintro e w1 ⟨rfl, hb1⟩
    have HB1 := Aside0.mk hb1
    have hM := HM.out
    unfold thenV at hM
    rw [if_neg (fun h => hbs h.1)] at hM
    simp only [Prod.mk.injEq] at hM
    obtain ⟨q1, q2⟩ := hM
    subst q1 q2
    clear hb1 HM hbs hG
    go_wp2
    go_ret2
    exact ⟨_, rfl, Kd.S_nil _ _ _ _ _, HB1.out⟩
end Go.Proofs.YtaegdhpcnpojnaaDoor.PU
