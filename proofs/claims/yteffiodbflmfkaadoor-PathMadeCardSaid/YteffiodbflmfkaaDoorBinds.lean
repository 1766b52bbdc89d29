/- A region that draws its order, whose operations only read and whose callees may make memory: one walk, over all worlds behind a given one. No conditions. Bind's find and On: what stands for a variable, what replaces a row's variables; their walks. Bind's May: may binds be; its walk. -/
import Derived.Test.YteffiodbflmfkaaDoorWWords
import Derived.BigQuiet
import Derived.Test.YteffiodbflmfkaaDoorTerms
import Derived.WalkSpells
import Derived.IntWalk
import Derived.Test.YteffiodbflmfkaaDoorPPx0
import Derived.Test.YteffiodbflmfkaaDoorPPx3
import Derived.Test.YteffiodbflmfkaaDoorPPx9
namespace Go.Proofs.YteffiodbflmfkaaDoor
open Go Go.RowKit Go.Proofs.YteffiodbflmfkaaDoorW.PrintWords
/-- A world behind another one: what lay there is as it was. -/
structure Later (W : World) where
 val : World
 prop : Below W.heap.size W val
instance (W : World) : Nonempty (Later W) := ⟨⟨W, Below.refl _ _⟩⟩
theorem Later.cell {W : World} {a : Addr} {v : Value} (h : W.cell? a = some v) (x : Later W) : x.val.cell? a = some v := pw_cell_below x.prop h
theorem Later.C {α : Type} {d : Kd α} {W : World} {A : Option Addr} {n : Nat} {xs : List α} (h : d.C W A n xs) (x : Later W) : d.C x.val A n xs := Kd.C_below h x.prop
theorem wp_region_later {P : Program} {id : Nat} {Q : Exit → Act → World → Prop} {a : Act} {w : World} {l : List Oper} (W : World) (hm : P.follows .mixedOrders = true) (hB : Region.lexB .any l.toArray = true) (hC : Below W.heap.size W w)
  (h : wpQuiet P l.toArray (fun w' => ∃ x : Later W, w' = x.val) (fun a' => ∀ w', (∃ x : Later W, w' = x.val) → Q .normal a' w') l a) : (Code.region id l.toArray true).wp P Q a w :=
 wp_region_quiet (C := fun w' => ∃ x : Later W, w' = x.val) hm hB ⟨⟨_, below_drew1 hC⟩, rfl⟩ (by simpa using h)
/-- A callee that makes memory, met in a world of the class. -/
theorem Calls.later {P : Program} {f : FuncId} {args : Array Value} {W : World} {x : Later W} {v : Value} (h : Calls P f args x.val fun e w' => e = .returned v ∧ Below x.val.heap.size x.val w') :
  Calls P f args x.val fun e w'' => e = .returned v ∧ ∃ y : Later W, w'' = y.val :=
 h.mono fun _ _ ⟨he, hb⟩ => ⟨he, ⟨⟨_, below_step x.prop hb⟩, rfl⟩⟩
theorem Calls.later0 {P : Program} {f : FuncId} {args : Array Value} {W : World} {x : Later W} {v : Value} (h : Calls P f args x.val fun e w' => e = .returned v ∧ Drawn0 x.val w') :
  Calls P f args x.val fun e w'' => e = .returned v ∧ ∃ y : Later W, w'' = y.val :=
 h.mono fun _ _ ⟨he, hb⟩ => ⟨he, ⟨⟨_, below_step x.prop hb.below⟩, rfl⟩⟩
end Go.Proofs.YteffiodbflmfkaaDoor
namespace Go.Proofs.YteffiodbflmfkaaDoor.PP
open Go Go.RowKit Go.Proofs.YteffiodbflmfkaaDoorW.PrintWords Go.Proofs.YteffiodbflmfkaaDoorW.PrintLast Go.Proofs.YteffiodbflmfkaaDoorW.PrintMore Go.Proofs.YteffiodbflmfkaaDoor
set_option linter.unusedVariables false
set_option linter.unusedSimpArgs false
/-- What stands for a variable; nothing: no codes. -/
def bfindV : List S66 → Int → List Int
 | [], _ => []
 | b :: s, v => if b.f0 = v then b.f1 else bfindV s v
/-- A row by its value: nil where it has no codes, there ahead of all else. -/
def NilCell (w : World) (t : List Int) (x : Value) : Prop := ∃ A c, x = .slice A t.length c ∧ t.length ≤ c ∧ Kd.C (Kd.int .i64) w A t.length t ∧ (t = [] → A = none ∧ c = 0) ∧ (t ≠ [] → A ≠ none)
theorem rd_bind (s : List S66) (i : Nat) (h : i < s.length) : rd_T66 s (i : Int) = s[i] := by
 simp [rd_T66, List.getElem?_eq_getElem h]
set_option maxHeartbeats 1000000 in
set_option maxRecDepth 100000 in
theorem bfind_calls (A0 : Option Addr) (c0 : Nat) (s : List S66) (v : Int) (w : World) (hr0 : Kd.C k66 w A0 s.length s) (hc0 : s.length ≤ c0) (hs : s.length ≤ 1000) (hne : ∀ b ∈ s, b.f1 ≠ []) :
  Calls Tryd.prog 53 #[.slice A0 s.length c0, .int .i64 v] w fun e w' => ∃ x, e = .returned x ∧ NilCell w (bfindV s v) x ∧ Below w.heap.size w w' := by
 obtain ⟨R, hR⟩ : ∃ R, bfindV s v = R := ⟨_, rfl⟩
 rw [hR]
 have hub := Tryd.underlying66
 have HR := Aside0.mk hR
 have HR0 := Aside0.mk hr0
 have HNE := Aside0.mk hne
 have HL := Aside0.mk hs
 clear hR hr0 hne hs
 go_enter Tryd.func53, Tryd.ntmps53
 go_wp2
 go_loopg [9] (s.length + 1) (fun kq v9 w' => ∃ (i : Nat), v9 = .int .i64 i ∧ Aside0 (i ≤ s.length ∧ kq + i = s.length + 1) ∧ Aside0 (bfindV (s.drop i) v = R) ∧ Aside0 (Below w.heap.size w w'))
 case atStart => exact ⟨0, rfl, ⟨by omega, by omega⟩, HR, ⟨Below.refl _ _⟩⟩
 case round =>
  clear HR
  obtain ⟨i, rfl, HI, HR, HB⟩ := hrel
  by_cases hi : i < s.length
  ·have hsl := HL.out
   have hi0 : (0 : Int) ≤ (i : Int) := by omega
   have hi1 : (i : Int) < (s.length : Int) := by omega
   have HW1 := Aside0.mk (wrap_nat i (by omega))
   obtain ⟨ad, XA, xc, rfl, hx0, hx1, hxl, hxC⟩ := at_T66 HR0.out (i : Int) hi0 hi1
   obtain ⟨b, hb⟩ : ∃ b, b = rd_T66 s (i : Int) := ⟨_, rfl⟩
   rw [← hb] at hx0 hx1 hxl hxC
   rw [Int.toNat_natCast] at hx0 hx1
   have hbm : b ∈ s := by rw [hb, rd_bind s i hi]; exact List.getElem_mem _
   have hbd : s.drop i = b :: s.drop (i + 1) := by rw [hb, rd_bind s i hi, List.drop_eq_getElem_cons hi]
   have hbn := HNE.out b hbm
   obtain ⟨b0, b1⟩ := b
   simp only at hx0 hx1 hxl hxC hbn
   replace hx0 := pw_cell_below HB.out hx0
   replace hx1 := pw_cell_below HB.out hx1
   have hr := HR.out
   rw [hbd] at hr
   simp only [bfindV] at hr
   have hA : b1 ≠ [] → XA ≠ none := by
    intro h
    obtain ⟨ad', h', _⟩ := hxC.2.2 (List.length_pos_iff.2 h)
    rw [h']
    simp
   have HX := Aside0.mk (show NilCell w b1 (.slice XA b1.length xc) from ⟨XA, xc, rfl, hxl, hxC, fun h => absurd h hbn, hA⟩)
   clear hb hbm hbd hbn hA hxl hxC HR
   by_cases he : b0 = v
   ·rw [if_pos he] at hr
    subst hr
    have he1 : (b0 == v) = true := by simpa using he
    subst he
    go_wp2
    go_ret
    exact ⟨_, rfl, HX.out, by repeat (first | (with_reducible first | exact HB.out | apply below_alloc | apply pw_below_drewN | apply below_drew1 | refine below_set ?_ HB.out.size) | exact HB.out)⟩
   ·rw [if_neg he] at hr
    have HR := Aside0.mk hr
    have he1 : (b0 == v) = false := by simpa using he
    clear hr he
    go_wp2
    go_roundg (gk - 1)
    case measure => have := HI.out; omega
    case rel => exact ⟨i + 1, by first | exact congrArg (Value.int .i64) HW1.out | rfl | go_num | (simp; done), ⟨by have := HI.out; omega, by have := HI.out; omega⟩, HR, ⟨by repeat (first | (with_reducible first | exact HB.out | apply below_alloc | apply pw_below_drewN | apply below_drew1) | exact HB.out)⟩⟩
  ·obtain rfl : i = s.length := by have := HI.out; omega
   have hr := HR.out
   rw [List.drop_length] at hr
   simp only [bfindV] at hr
   subst hr
   clear hi HR
   go_wp2
   go_ret
   exact ⟨_, rfl, ⟨none, 0, rfl, Nat.le_refl _, ⟨rfl, by simp, fun h => absurd h (Nat.lt_irrefl 0)⟩, fun _ => ⟨rfl, rfl⟩, fun h => absurd rfl h⟩, HB.out⟩
/-- One code, with what stands for it; a row of them. -/
def putV (s : List S66) (c : Int) : List Int := if 0 ≤ c then [c] else if bfindV s (-1 - c) = [] then [c] else bfindV s (-1 - c)
def onV (s : List S66) : List Int → List Int
 | [] => []
 | c :: r => putV s c ++ onV s r
theorem onV_append (s : List S66) (r u : List Int) : onV s (r ++ u) = onV s r ++ onV s u := by
 induction r with
 | nil => rfl
 | cons c r ih => simp only [List.cons_append, onV, ih, List.append_assoc]
theorem bfindV_mem (s : List S66) (v : Int) : bfindV s v = [] ∨ ∃ b ∈ s, b.f0 = v ∧ b.f1 = bfindV s v := by
 induction s with
 | nil => exact .inl rfl
 | cons b s ih =>
  simp only [bfindV]
  split
  ·rename_i h
   exact .inr ⟨b, List.mem_cons_self .., h, rfl⟩
  ·rcases ih with h | ⟨b', h1, h2⟩
   ·exact .inl h
   ·exact .inr ⟨b', List.mem_cons_of_mem _ h1, h2⟩
theorem putV_len {s : List S66} (hs : ∀ b ∈ s, b.f1.length ≤ 48) (c : Int) : (putV s c).length ≤ 48 := by
 unfold putV
 split
 ·simp
 ·split
  ·simp
  ·rcases bfindV_mem s (-1 - c) with h | ⟨b, h1, _, h2⟩
   ·rw [h]; simp
   ·rw [← h2]; exact hs b h1
theorem onV_len {s : List S66} (hs : ∀ b ∈ s, b.f1.length ≤ 48) : ∀ (r : List Int), (onV s r).length ≤ 48 * r.length := by
 intro r
 induction r with
 | nil => simp [onV]
 | cons c r ih =>
  have := putV_len hs c
  simp only [onV, List.length_append, List.length_cons]
  omega
set_option maxHeartbeats 1000000 in
set_option maxRecDepth 100000 in
theorem on_calls (A0 : Option Addr) (c0 : Nat) (s : List S66) (A1 : Option Addr) (c1 : Nat) (r : List Int) (w : World) (hr0 : Kd.C k66 w A0 s.length s) (hc0 : s.length ≤ c0) (hr1 : Kd.C (Kd.int .i64) w A1 r.length r) (hc1 : r.length ≤ c1)
  (hs : s.length ≤ 1000) (hne : ∀ b ∈ s, b.f1 ≠ []) (hle : ∀ b ∈ s, b.f1.length ≤ 48) (hrl : r.length ≤ 60) (hcs : ∀ c ∈ r, -24 ≤ c ∧ c ≤ 1000) :
  Calls Tryd.prog 35 #[.slice A0 s.length c0, .slice A1 r.length c1] w fun e w' => ∃ v, e = .returned v ∧ Kd.R (Kd.int .i64) 3 w' w.heap.size (fun _ => True) v (onV s r) ∧ Below w.heap.size w w' := by
 have qn : ∀ (w : World) (a : Option Addr) (n c n' c' : Nat), (binOp .eql 23 (.slice a n c) (.slice none n' c')).run Tryd.prog w = .ok (.bool a.isNone) w := fun w a n c n' c' => Lib.run_eql_slice_nil w _ _ a n c n' c' Tryd.underlying23
 have HR0 := Aside0.mk hr0
 have HR1 := Aside0.mk hr1
 have HNE := Aside0.mk hne
 have HLE := Aside0.mk hle
 have HL := Aside0.mk hs
 have HRL := Aside0.mk hrl
 have HCS := Aside0.mk hcs
 clear hr0 hr1 hne hle hs hrl hcs
 go_enter Tryd.func35, Tryd.ntmps35
 go_wp2
 go_loopg [5, 11] (r.length + 1) (fun kq v5 v11 w' => ∃ (i : Nat), v11 = .int .i64 i ∧ Aside0 (i ≤ r.length ∧ kq + i = r.length + 1) ∧ Aside0 (Kd.R (Kd.int .i64) 3 w' w.heap.size (fun _ => True) v5 (onV s (r.take i))) ∧ Aside0 (Below w.heap.size w w'))
 case atStart => exact ⟨0, rfl, ⟨by omega, by omega⟩, ⟨by rw [List.take_zero]; exact Kd.R_nil _ _ _ _ _⟩, ⟨Below.refl _ _⟩⟩
 case round =>
  obtain ⟨i, rfl, HI, HO, HB⟩ := hrel
  by_cases hi : i < r.length
  ·have hrl := HRL.out
   have hi0 : (0 : Int) ≤ (i : Int) := by omega
   have hi1 : (i : Int) < (r.length : Int) := by omega
   have HW1 := Aside0.mk (wrap_nat i (by omega))
   obtain ⟨ad, rfl, hcell⟩ := Kd.at_int HR1.out (i : Int) hi0 hi1
   obtain ⟨cc, hcc⟩ : ∃ cc, cc = rd r (i : Int) := ⟨_, rfl⟩
   rw [← hcc, Int.toNat_natCast] at hcell
   replace hcell := pw_cell_below HB.out hcell
   obtain ⟨hclo, hchi⟩ := HCS.out cc (by rw [hcc, rd_nat r i hi]; exact List.getElem_mem _)
   have HTK := Aside0.mk (show onV s (r.take (i + 1)) = onV s (r.take i) ++ putV s cc by rw [hcc, rd_nat r i hi, List.take_add_one, List.getElem?_eq_getElem hi, onV_append]; simp [onV])
   have hlen := onV_len HLE.out (r.take i)
   rw [List.length_take] at hlen
   have HLEN := Aside0.mk (show (onV s (r.take i)).length ≤ 3000 by omega)
   have HNUM := Aside0.mk (show term_Number.f cc = some (-1 - cc) by unfold term_Number.f wrap64; congr 1; omega)
   obtain ⟨t, ht⟩ : ∃ t, t = bfindV s (-1 - cc) := ⟨_, rfl⟩
   have HT := Aside0.mk ht
   have htl : t.length ≤ 48 := by
    rcases bfindV_mem s (-1 - cc) with h | ⟨b, h1, _, h2⟩
    ·rw [ht, h]; simp
    ·rw [ht, ← h2]; exact HLE.out b h1
   have HTL := Aside0.mk htl
   clear hcc hlen ht htl
   go_wp2_with fail
   refine (term_Number.calls cc (-1 - cc) _ HNUM.out).mono ?_
   rintro e w' ⟨rfl, ⟨nd, rfl⟩⟩
   go_wp2_with fail
   refine (bfind_calls A0 c0 s (-1 - cc) _ (Kd.C_below HR0.out (pw_below_drewN HB.out _)) hc0 HL.out HNE.out).mono ?_
   rw [← HT.out]
   rintro e w1 ⟨x, rfl, ⟨XA, xc, rfl, hxl, hxC, hxn, hxs⟩, hb1⟩
   have HXC := Aside0.mk (Kd.C_below hxC hb1)
   have HXL := Aside0.mk hxl
   have HO1 := Aside0.mk (Kd.R_below (Kd.R_drewN HO.out nd) hb1)
   have HB1 := Aside0.mk (below_step (pw_below_drewN HB.out nd) hb1)
   clear hb1 hxC HO HB
   by_cases hc : 0 ≤ cc
   ·have HP := Aside0.mk (show putV s cc = [cc] by unfold putV; rw [if_pos hc])
    have hc1 : decide ((0 : Int) ≤ cc) = true := by simpa using hc
    clear hc hxn hxs
    go_wp2_with (first | ((with_reducible refine gate_builtin (b := .append) (xs := #[.tmp 25, .tmp 27]) rfl ?_); at_builtin; refine Kd.R_append (Kd.int .i64) (w0 := w) w.heap.size rfl (.tmp 25) (.tmp 27) 23 3 (.int .i64 0) 8 rfl Tryd.underlying23 info3 rfl (by decide) (by omega) u5 (onV s (r.take i)) cc [.int .i64 cc] (fun _ => True) (fun _ => False) rfl rfl ?aP (fun _ hk => hk.elim) ?aF ?aO ?aB ?aS ?aL ?_; (case aP => exact rfl); (case aB => exact (by repeat (first | (with_reducible first | exact HB1.out | apply below_alloc | apply pw_below_drewN | apply below_drew1) | exact HB1.out))); (case aF => exact (fun _ _ => trivial)); (case aO => exact (by (with_reducible repeat (first | apply Kd.R_alloc | apply Kd.R_drewN | apply Kd.R_drew)); exact HO1.out)); (case aS => exact (below_size (by repeat (first | (with_reducible first | exact HB1.out | apply below_alloc | apply pw_below_drewN | apply below_drew1) | exact HB1.out)))); (case aL => have := HLEN.out; omega); intro v7 w7 ho hb hg hat; have n0_ := Aside0.mk hb; have n1_ := Aside0.mk ho; clear ho hb hg hat))
    go_roundg (gk - 1)
    case measure => have := HI.out; omega
    case rel => exact ⟨i + 1, by first | exact congrArg (Value.int .i64) HW1.out | rfl | go_num | (simp; done), ⟨by have := HI.out; omega, by have := HI.out; omega⟩, ⟨by rw [HTK.out, HP.out]; exact n1_.out⟩, n0_⟩
   ·have hc1 : decide ((0 : Int) ≤ cc) = false := by simpa using hc
    by_cases ht : t = []
    ·obtain ⟨rfl, rfl⟩ := hxn ht
     have HP := Aside0.mk (show putV s cc = [cc] by unfold putV; rw [if_neg hc, if_pos (by rw [← HT.out]; exact ht)])
     subst ht
     clear hc hxn hxs
     go_wp2_with (first | ((with_reducible refine gate_builtin (b := .append) (xs := #[.tmp 25, .tmp 27]) rfl ?_); at_builtin; refine Kd.R_append (Kd.int .i64) (w0 := w) w.heap.size rfl (.tmp 25) (.tmp 27) 23 3 (.int .i64 0) 8 rfl Tryd.underlying23 info3 rfl (by decide) (by omega) u5 (onV s (r.take i)) cc [.int .i64 cc] (fun _ => True) (fun _ => False) rfl rfl ?aP (fun _ hk => hk.elim) ?aF ?aO ?aB ?aS ?aL ?_; (case aP => exact rfl); (case aB => exact (by repeat (first | (with_reducible first | exact HB1.out | apply below_alloc | apply pw_below_drewN | apply below_drew1) | exact HB1.out))); (case aF => exact (fun _ _ => trivial)); (case aO => exact (by (with_reducible repeat (first | apply Kd.R_alloc | apply Kd.R_drewN | apply Kd.R_drew)); exact HO1.out)); (case aS => exact (below_size (by repeat (first | (with_reducible first | exact HB1.out | apply below_alloc | apply pw_below_drewN | apply below_drew1) | exact HB1.out)))); (case aL => have := HLEN.out; omega); intro v7 w7 ho hb hg hat; have n0_ := Aside0.mk hb; have n1_ := Aside0.mk ho; clear ho hb hg hat))
     go_roundg (gk - 1)
     case measure => have := HI.out; omega
     case rel => exact ⟨i + 1, by first | exact congrArg (Value.int .i64) HW1.out | rfl | go_num | (simp; done), ⟨by have := HI.out; omega, by have := HI.out; omega⟩, ⟨by rw [HTK.out, HP.out]; exact n1_.out⟩, n0_⟩
    ·have hX := hxs ht
     obtain ⟨xd, rfl⟩ := Option.ne_none_iff_exists'.1 hX
     have HP := Aside0.mk (show putV s cc = t by unfold putV; rw [if_neg hc, if_neg (by rw [← HT.out]; exact ht), HT.out])
     clear hc hxn hxs hX ht
     go_wp2_with (first | ((with_reducible refine gate_builtin (b := .append) (xs := #[.tmp 29, .tmp 30]) rfl ?_); at_builtin; refine Kd.R_append_rows (Kd.int .i64) (w0 := w) w.heap.size rfl (.tmp 29) (.tmp 30) 23 3 (.int .i64 0) 8 rfl Tryd.underlying23 info3 rfl (by decide) (by omega) u5 (onV s (r.take i)) t _ _ _ (fun _ => True) (fun _ => False) rfl rfl ?aO ?aR (fun _ _ h => h) (fun _ h => h.elim) ?aF ?aB ?aS ?aL ?_; (case aR => exact HXC.out); (case aB => exact (by repeat (first | (with_reducible first | exact HB1.out | apply below_alloc | apply pw_below_drewN | apply below_drew1) | exact HB1.out))); (case aF => exact (fun _ _ => trivial)); (case aO => exact (by (with_reducible repeat (first | apply Kd.R_alloc | apply Kd.R_drewN | apply Kd.R_drew)); exact HO1.out)); (case aS => exact (below_size (by repeat (first | (with_reducible first | exact HB1.out | apply below_alloc | apply pw_below_drewN | apply below_drew1) | exact HB1.out)))); (case aL => have := HLEN.out; have := HTL.out; omega); intro v7 w7 ho hb hg hat; have n0_ := Aside0.mk hb; have n1_ := Aside0.mk ho; clear ho hb hg hat))
     go_roundg (gk - 1)
     case measure => have := HI.out; omega
     case rel => exact ⟨i + 1, by first | exact congrArg (Value.int .i64) HW1.out | rfl | go_num | (simp; done), ⟨by have := HI.out; omega, by have := HI.out; omega⟩, ⟨by rw [HTK.out, HP.out]; exact n1_.out⟩, n0_⟩
  ·obtain rfl : i = r.length := by have := HI.out; omega
   clear hi
   have ho := HO.out
   rw [List.take_length] at ho
   have HO := Aside0.mk ho
   clear ho
   go_wp2
   go_ret
   exact ⟨_, rfl, HO.out, HB.out⟩
end Go.Proofs.YteffiodbflmfkaaDoor.PP
namespace Go.Proofs.YteffiodbflmfkaaDoor.PP
open Go Go.RowKit Go.Proofs.YteffiodbflmfkaaDoorW.PrintWords Go.Proofs.YteffiodbflmfkaaDoorW.PrintLast Go.Proofs.YteffiodbflmfkaaDoorW.PrintMore Go.Proofs.YteffiodbflmfkaaDoor
set_option linter.unusedVariables false
set_option linter.unusedSimpArgs false
/-- A bind may be, at its place among others. -/
def BindAt (l : List S59) (s : List S66) (i : Nat) : Prop :=
 0 ≤ (s.getD i z66).f0 ∧ (s.getD i z66).f0 ≤ 23 ∧ (0 < i → (s.getD (i - 1) z66).f0 < (s.getD i z66).f0) ∧ Row l 1 (s.getD i z66).f1 ∧ (s.getD i z66).f1 ≠ [-1 - (s.getD i z66).f0]
def BindsOk (l : List S59) (s : List S66) : Prop := SignOk l ∧ ∀ i, i < s.length → BindAt l s i
theorem alone_f (t : List Int) (v : Int) (h0 : -1000 ≤ v) (h1 : v ≤ 1000) : bind_alone.f t v = some (decide (t = [-1 - v])) := by
 unfold bind_alone.f term_Number.f
 match t with
 | [] => simp
 | [c] =>
  rw [if_pos (by simp), if_pos (by simp), wrap_id _ (by omega) (by omega)]
  have e : rd [c] 0 = c := rfl
  simp only [Option.bind_some, e, List.cons.injEq, and_true]
  congr 1
 | c :: d :: r =>
  rw [if_neg (by simp only [List.length_cons]; omega)]
  simp
theorem getD_bind (s : List S66) (i : Nat) : rd_T66 s (i : Int) = s.getD i z66 := by simp [rd_T66]
set_option maxHeartbeats 2000000 in
set_option maxRecDepth 100000 in
theorem bmay_calls (A0 : Option Addr) (c0 : Nat) (l : List S59) (A1 : Option Addr) (c1 : Nat) (s : List S66) (w : World) (hr0 : Kd.C k59 w A0 l.length l) (hc0 : l.length ≤ c0) (hr1 : Kd.C k66 w A1 s.length s) (hc1 : s.length ≤ c1) (hG : Glob w) (R : Bool) (hR : R = true ↔ BindsOk l s) :
  Calls Tryd.prog 33 #[.slice A0 l.length c0, .slice A1 s.length c1] w fun e w' => e = .returned (.bool R) ∧ Below w.heap.size w w' := by
 classical
 have hub := Tryd.underlying66
 obtain ⟨km, hkm⟩ := (may_ev l).rounds
 have hlen : s.length ≤ maxLen := hr1.2.1
 have HLEN := Aside0.mk hlen
 have HR0 := Aside0.mk hr0
 have HR1 := Aside0.mk hr1
 have HR := Aside0.mk hR
 clear hr0 hr1 hR hlen
 by_cases hs : SignOk l
 ·rw [signB_true.2 hs] at hkm
  have HKM := Aside0.mk hkm
  have HS := Aside0.mk hs
  clear hkm hs
  go_enter Tryd.func33, Tryd.ntmps33
  go_wp2_with fail
  refine (sign_May.calls km _ _ l true _ HR0.out hc0 HKM.out hG).mono ?_
  rintro e w1 ⟨rfl, hd1⟩
  have HB1 := Aside0.mk (show Below w.heap.size w w1 from hd1)
  clear hd1
  go_wp2
  go_loopg [12] (s.length + 1) (fun kq v12 w' => ∃ (i : Nat), v12 = .int .i64 i ∧ Aside0 (i ≤ s.length ∧ kq + i = s.length + 1) ∧ Aside0 (∀ j, j < i → BindAt l s j) ∧ Aside0 (Below w.heap.size w w'))
  case atStart => exact ⟨0, rfl, ⟨by omega, by omega⟩, ⟨fun j hj => by omega⟩, HB1⟩
  case round =>
   obtain ⟨i, rfl, HI, HA, HB⟩ := hrel
   by_cases hi : i < s.length
   ·have hsl := HLEN.out
    unfold maxLen at hsl
    have hi0 : (0 : Int) ≤ (i : Int) := by omega
    have hi1 : (i : Int) < (s.length : Int) := by omega
    have HW1 := Aside0.mk (wrap_nat i (by omega))
    obtain ⟨ad, XA, xc, rfl, hx0, hx1, hxl, hxC⟩ := at_T66 HR1.out (i : Int) hi0 hi1
    obtain ⟨b, hb⟩ : ∃ b, b = rd_T66 s (i : Int) := ⟨_, rfl⟩
    rw [← hb] at hx0 hx1 hxl hxC
    rw [Int.toNat_natCast] at hx0 hx1
    rw [getD_bind] at hb
    obtain ⟨b0, b1⟩ := b
    simp only at hx0 hx1 hxl hxC
    replace hx0 := pw_cell_below HB.out hx0
    replace hx1 := pw_cell_below HB.out hx1
    have HBB := Aside0.mk hb
    have HXC := Aside0.mk (Kd.C_below hxC HB.out)
    have HXL := Aside0.mk hxl
    clear hb hxC hxl hsl
    by_cases h1 : b0 < 0
    ·have d1 : decide (b0 < 0) = true := by simpa using h1
     have HF := Aside0.mk (show R = false by
      rw [← Bool.not_eq_true, HR.out]
      intro h
      have := (h.2 i hi).1
      rw [← HBB.out] at this
      simp only at this
      omega)
     clear h1 HA
     go_wp2
     go_quiet (fail)
     go_wp2
     go_ret
     exact ⟨by rw [HF.out]; rfl, by repeat (first | (with_reducible first | exact HB.out | apply below_alloc | apply pw_below_drewN | apply below_drew1) | exact HB.out)⟩
    ·have d1 : decide (b0 < 0) = false := by simpa using h1
     by_cases h2 : 23 < b0
     ·have d2 : decide ((23 : Int) < b0) = true := by simpa using h2
      have HF := Aside0.mk (show R = false by
       rw [← Bool.not_eq_true, HR.out]
       intro h
       have := (h.2 i hi).2.1
       rw [← HBB.out] at this
       simp only at this
       omega)
      clear h1 h2 HA
      go_wp2
      go_quiet (fail)
      go_wp2
      go_ret
      exact ⟨by rw [HF.out]; rfl, by repeat (first | (with_reducible first | exact HB.out | apply below_alloc | apply pw_below_drewN | apply below_drew1) | exact HB.out)⟩
     ·have d2 : decide ((23 : Int) < b0) = false := by simpa using h2
      obtain ⟨W, hW⟩ : ∃ W, W = wr.alloc (.cells #[.int .i64 b0, .slice XA b1.length xc] 66) := ⟨_, rfl⟩
      have hbW : Below wr.heap.size wr W := by rw [hW]; exact below_alloc (Below.refl _ _) _
      have hgW : W.heap[wr.heap.size]? = some (.cells #[.int .i64 b0, .slice XA b1.length xc] 66 (0, 0)) := by rw [hW]; exact heap_alloc_new _ _
      have hl0 : ∀ x : Later W, x.val.cell? ⟨wr.heap.size, 0, none⟩ = some (.int .i64 b0) := Later.cell ((blk_cell hgW 0).trans rfl)
      have hl1 : ∀ x : Later W, x.val.cell? ⟨wr.heap.size, 1, none⟩ = some (.slice XA b1.length xc) := Later.cell ((blk_cell hgW 1).trans rfl)
      have HL0 := Aside0.mk (show ∀ x : Later W, Kd.C k59 x.val A0 l.length l from Later.C (Kd.C_below HR0.out (below_step HB.out hbW)))
      have HL1 := Aside0.mk (show ∀ x : Later W, Kd.C (Kd.int .i64) x.val XA b1.length b1 from Later.C (Kd.C_below HXC.out hbW))
      have HLG := Aside0.mk (show ∀ x : Later W, Glob x.val from fun x => (hG.below (below_step HB.out hbW)).below x.prop)
      clear hbW hgW
      subst hW
      by_cases h3 : i = 0
      ·have hg0 : decide ((0 : Int) < (i : Int)) = false := by rw [decide_eq_false_iff_not]; omega
       have hg1 : decide (0 < i) = false := by rw [decide_eq_false_iff_not]; omega
       clear h3
       by_cases h5 : Row l 1 b1
       ·obtain ⟨kt, hkt⟩ := (isTerm_ev l b1).rounds
        rw [decide_eq_true h5] at hkt
        have HKT := Aside0.mk hkt
        by_cases h6 : b1 = [-1 - b0]
        ·have HAL := Aside0.mk (show bind_alone.f b1 b0 = some true by rw [alone_f b1 b0 (by omega) (by omega), decide_eq_true h6])
         have HF := Aside0.mk (show R = false by
          rw [← Bool.not_eq_true, HR.out]
          intro h
          have := (h.2 (i) hi).2.2.2.2
          rw [← HBB.out] at this
          exact this h6)
         clear h1 h2 h5 h6 hkt HA
         go_wp2
         refine wp_region_later (wr.alloc (.cells #[.int .i64 b0, .slice XA b1.length xc] 66)) (by kernel_rfl) (by kernel_rfl) (Below.refl _ _) ?_
         repeat (go_big_quiet_step ((first | (go_at_call 36; exact Calls.later (term_IsTerm.calls kt _ _ l _ _ b1 true _ (HL0.out _) hc0 (HL1.out _) HXL.out HKT.out (HLG.out _))) | (go_at_call 51; exact Calls.later0 (bind_alone.calls _ _ b1 b0 true _ (HL1.out _) HXL.out HAL.out)))))
         refine wpQuiet_nil ?_
         rintro _ ⟨⟨w5, hb5⟩, rfl⟩
         have HB5 := Aside0.mk (below_step (show Below w.heap.size w _ from by repeat (first | (with_reducible first | exact HB.out | apply below_alloc | apply pw_below_drewN | apply below_drew1) | exact HB.out)) hb5)
         clear hb5
         go_wp2
         go_ret
         exact ⟨by rw [HF.out]; rfl, HB5.out⟩
        ·have HAL := Aside0.mk (show bind_alone.f b1 b0 = some false by rw [alone_f b1 b0 (by omega) (by omega), decide_eq_false h6])
         have HA2 := Aside0.mk (show ∀ j', j' < (i) + 1 → BindAt l s j' from fun j' hj' => by
          rcases Nat.lt_or_ge j' (i) with h | h
          ·exact HA.out j' h
          ·obtain rfl : j' = i := by omega
           unfold BindAt
           rw [← HBB.out]
           exact ⟨by simp only; omega, by simp only; omega, fun h => absurd h (by have := of_decide_eq_false hg1; omega), h5, h6⟩)
         clear h1 h2 h5 h6 hkt HA
         go_wp2
         refine wp_region_later (wr.alloc (.cells #[.int .i64 b0, .slice XA b1.length xc] 66)) (by kernel_rfl) (by kernel_rfl) (Below.refl _ _) ?_
         repeat (go_big_quiet_step ((first | (go_at_call 36; exact Calls.later (term_IsTerm.calls kt _ _ l _ _ b1 true _ (HL0.out _) hc0 (HL1.out _) HXL.out HKT.out (HLG.out _))) | (go_at_call 51; exact Calls.later0 (bind_alone.calls _ _ b1 b0 false _ (HL1.out _) HXL.out HAL.out)))))
         refine wpQuiet_nil ?_
         rintro _ ⟨⟨w5, hb5⟩, rfl⟩
         have HB5 := Aside0.mk (below_step (show Below w.heap.size w _ from by repeat (first | (with_reducible first | exact HB.out | apply below_alloc | apply pw_below_drewN | apply below_drew1) | exact HB.out)) hb5)
         clear hb5
         go_wp2
         go_roundg (gk - 1)
         case measure => have := HI.out; omega
         case rel => exact ⟨(i) + 1, by first | exact congrArg (Value.int .i64) HW1.out | rfl | go_num | (simp; done), ⟨by have := HI.out; omega, by have := HI.out; omega⟩, HA2, HB5⟩
       ·obtain ⟨kt, hkt⟩ := (isTerm_ev l b1).rounds
        rw [decide_eq_false h5] at hkt
        have HKT := Aside0.mk hkt
        have HF := Aside0.mk (show R = false by
         rw [← Bool.not_eq_true, HR.out]
         intro h
         have := (h.2 (i) hi).2.2.2.1
         rw [← HBB.out] at this
         exact h5 this)
        clear h1 h2 h5 hkt HA
        go_wp2
        refine wp_region_later (wr.alloc (.cells #[.int .i64 b0, .slice XA b1.length xc] 66)) (by kernel_rfl) (by kernel_rfl) (Below.refl _ _) ?_
        repeat (go_big_quiet_step (((go_at_call 36; exact Calls.later (term_IsTerm.calls kt _ _ l _ _ b1 false _ (HL0.out _) hc0 (HL1.out _) HXL.out HKT.out (HLG.out _))))))
        refine wpQuiet_nil ?_
        rintro _ ⟨⟨w5, hb5⟩, rfl⟩
        have HB5 := Aside0.mk (below_step (show Below w.heap.size w _ from by repeat (first | (with_reducible first | exact HB.out | apply below_alloc | apply pw_below_drewN | apply below_drew1) | exact HB.out)) hb5)
        clear hb5
        go_wp2
        go_ret
        exact ⟨by rw [HF.out]; rfl, HB5.out⟩
      ·obtain ⟨j, rfl⟩ : ∃ j, i = j + 1 := ⟨i - 1, by omega⟩
       obtain ⟨ad', YA, yc, e', hy0, _, _, _⟩ := at_T66 HR1.out (j : Int) (by omega) (by omega)
       injection e' with e'
       subst e'
       obtain ⟨p0, hp⟩ : ∃ p0, p0 = (rd_T66 s (j : Int)).f0 := ⟨_, rfl⟩
       rw [← hp] at hy0
       rw [Int.toNat_natCast] at hy0
       rw [getD_bind] at hp
       replace hy0 := pw_cell_below HB.out hy0
       have HP := Aside0.mk hp
       have hyA : ∀ o, (wr.alloc o).cell? (ad.add (j * 2)) = some (.int .i64 p0) := fun o => pw_cell_below (below_alloc (Below.refl _ _) o) hy0
       clear hy0
       have hg0 : decide ((0 : Int) < (j : Int) + 1) = true := by rw [decide_eq_true_eq]; omega
       have hj0 : (0 : Int) ≤ (j : Int) := by omega
       have hj1 : (j : Int) < (s.length : Int) := by omega
       have hwr : IntKind.i64.wrap (j : Int) = (j : Int) := IntWalk.i64_in _ (by have := HLEN.out; unfold maxLen at this; omega)
       clear hp
       by_cases h4 : b0 ≤ p0
       ·have d4 : decide (b0 ≤ p0) = true := by simpa using h4
        have HF := Aside0.mk (show R = false by
         rw [← Bool.not_eq_true, HR.out]
         intro h
         have := (h.2 (j + 1) hi).2.2.1 (by omega)
         rw [← HBB.out, show j + 1 - 1 = j by omega, ← HP.out] at this
         simp only at this
         omega)
        clear h1 h2 h4 HA
        go_wp2
        go_quiet (fail)
        go_wp2
        go_ret
        exact ⟨by rw [HF.out]; rfl, by repeat (first | (with_reducible first | exact HB.out | apply below_alloc | apply pw_below_drewN | apply below_drew1) | exact HB.out)⟩
       ·have d4 : decide (b0 ≤ p0) = false := by simpa using h4
        have hlA : ∀ x : Later (wr.alloc (.cells #[.int .i64 b0, .slice XA b1.length xc] 66)), x.val.cell? (ad.add (j * 2)) = some (.int .i64 p0) := Later.cell (hyA _)
        by_cases h5 : Row l 1 b1
        ·obtain ⟨kt, hkt⟩ := (isTerm_ev l b1).rounds
         rw [decide_eq_true h5] at hkt
         have HKT := Aside0.mk hkt
         by_cases h6 : b1 = [-1 - b0]
         ·have HAL := Aside0.mk (show bind_alone.f b1 b0 = some true by rw [alone_f b1 b0 (by omega) (by omega), decide_eq_true h6])
          have HF := Aside0.mk (show R = false by
           rw [← Bool.not_eq_true, HR.out]
           intro h
           have := (h.2 (j + 1) hi).2.2.2.2
           rw [← HBB.out] at this
           exact this h6)
          clear h1 h2 h5 h6 hkt HA
          go_wp2
          refine wp_region_later (wr.alloc (.cells #[.int .i64 b0, .slice XA b1.length xc] 66)) (by kernel_rfl) (by kernel_rfl) (Below.refl _ _) ?_
          repeat (go_big_quiet_step ((first | (go_at_call 36; exact Calls.later (term_IsTerm.calls kt _ _ l _ _ b1 true _ (HL0.out _) hc0 (HL1.out _) HXL.out HKT.out (HLG.out _))) | (go_at_call 51; exact Calls.later0 (bind_alone.calls _ _ b1 b0 true _ (HL1.out _) HXL.out HAL.out)))))
          refine wpQuiet_nil ?_
          rintro _ ⟨⟨w5, hb5⟩, rfl⟩
          have HB5 := Aside0.mk (below_step (show Below w.heap.size w _ from by repeat (first | (with_reducible first | exact HB.out | apply below_alloc | apply pw_below_drewN | apply below_drew1) | exact HB.out)) hb5)
          clear hb5
          go_wp2
          go_ret
          exact ⟨by rw [HF.out]; rfl, HB5.out⟩
         ·have HAL := Aside0.mk (show bind_alone.f b1 b0 = some false by rw [alone_f b1 b0 (by omega) (by omega), decide_eq_false h6])
          have HA2 := Aside0.mk (show ∀ j', j' < (j + 1) + 1 → BindAt l s j' from fun j' hj' => by
           rcases Nat.lt_or_ge j' (j + 1) with h | h
           ·exact HA.out j' h
           ·obtain rfl : j' = j + 1 := by omega
            unfold BindAt
            rw [← HBB.out]
            exact ⟨by simp only; omega, by simp only; omega, fun _ => by rw [show j + 1 - 1 = j by omega, ← HP.out]; simp only; omega, h5, h6⟩)
          clear h1 h2 h5 h6 hkt HA
          go_wp2
          refine wp_region_later (wr.alloc (.cells #[.int .i64 b0, .slice XA b1.length xc] 66)) (by kernel_rfl) (by kernel_rfl) (Below.refl _ _) ?_
          repeat (go_big_quiet_step ((first | (go_at_call 36; exact Calls.later (term_IsTerm.calls kt _ _ l _ _ b1 true _ (HL0.out _) hc0 (HL1.out _) HXL.out HKT.out (HLG.out _))) | (go_at_call 51; exact Calls.later0 (bind_alone.calls _ _ b1 b0 false _ (HL1.out _) HXL.out HAL.out)))))
          refine wpQuiet_nil ?_
          rintro _ ⟨⟨w5, hb5⟩, rfl⟩
          have HB5 := Aside0.mk (below_step (show Below w.heap.size w _ from by repeat (first | (with_reducible first | exact HB.out | apply below_alloc | apply pw_below_drewN | apply below_drew1) | exact HB.out)) hb5)
          clear hb5
          go_wp2
          go_roundg (gk - 1)
          case measure => have := HI.out; omega
          case rel => exact ⟨(j + 1) + 1, by first | exact congrArg (Value.int .i64) HW1.out | rfl | go_num | (simp; done), ⟨by have := HI.out; omega, by have := HI.out; omega⟩, HA2, HB5⟩
        ·obtain ⟨kt, hkt⟩ := (isTerm_ev l b1).rounds
         rw [decide_eq_false h5] at hkt
         have HKT := Aside0.mk hkt
         have HF := Aside0.mk (show R = false by
          rw [← Bool.not_eq_true, HR.out]
          intro h
          have := (h.2 (j + 1) hi).2.2.2.1
          rw [← HBB.out] at this
          exact h5 this)
         clear h1 h2 h5 hkt HA
         go_wp2
         refine wp_region_later (wr.alloc (.cells #[.int .i64 b0, .slice XA b1.length xc] 66)) (by kernel_rfl) (by kernel_rfl) (Below.refl _ _) ?_
         repeat (go_big_quiet_step (((go_at_call 36; exact Calls.later (term_IsTerm.calls kt _ _ l _ _ b1 false _ (HL0.out _) hc0 (HL1.out _) HXL.out HKT.out (HLG.out _))))))
         refine wpQuiet_nil ?_
         rintro _ ⟨⟨w5, hb5⟩, rfl⟩
         have HB5 := Aside0.mk (below_step (show Below w.heap.size w _ from by repeat (first | (with_reducible first | exact HB.out | apply below_alloc | apply pw_below_drewN | apply below_drew1) | exact HB.out)) hb5)
         clear hb5
         go_wp2
         go_ret
         exact ⟨by rw [HF.out]; rfl, HB5.out⟩
   ·obtain rfl : i = s.length := by have := HI.out; omega
    have HT := Aside0.mk (HR.out.2 ⟨HS.out, HA.out⟩)
    clear hi
    go_wp2
    go_ret
    exact ⟨by rw [HT.out]; rfl, HB.out⟩
 ·have hf : signB l = false := by rw [← Bool.not_eq_true, signB_true]; exact hs
  have HF := Aside0.mk (show R = false by rw [← Bool.not_eq_true, HR.out]; exact fun h => hs h.1)
  rw [hf] at hkm
  have HKM := Aside0.mk hkm
  clear hkm hf hs HR
  go_enter Tryd.func33, Tryd.ntmps33
  go_wp2_with fail
  refine (sign_May.calls km _ _ l false _ HR0.out hc0 HKM.out hG).mono ?_
  rintro e w1 ⟨rfl, hd1⟩
  have HB1 := Aside0.mk (show Below w.heap.size w w1 from hd1)
  clear hd1
  go_wp2
  go_ret
  exact ⟨by rw [HF.out]; rfl, HB1.out⟩
end Go.Proofs.YteffiodbflmfkaaDoor.PP
