/- Lit's Tops: its closures, the library's ContainsFunc over them; their walks. Lit's Tops: its two closures, and itself; their walks. Lit's Tops as a function of rounds: what its text of our own says to those that call it. -/
import Derived.Test.YtfnemhkiopgeaaaDoorTerms
import Derived.WalkSpells
import Derived.Test.YtfnemhkiopgeaaaDoorPKx0
import Derived.Test.YtfnemhkiopgeaaaDoorPKx3
import Derived.Test.YtfnemhkiopgeaaaDoorPKx4
import Derived.Test.YtfnemhkiopgeaaaDoorPKx13
namespace Go.Proofs.YtfnemhkiopgeaaaDoor.PK
open Go Go.RowKit Go.Proofs.YtfnemhkiopgeaaaDoorW.PrintWords Go.Proofs.YtfnemhkiopgeaaaDoorW.PrintLast Go.Proofs.YtfnemhkiopgeaaaDoorW.PrintMore Go.Proofs.YtfnemhkiopgeaaaDoor
set_option linter.unusedVariables false
set_option linter.unusedSimpArgs false
/-- The first place at which a test holds; -1: none. -/
def indexV (g : S25 → Bool) : List S25 → Nat → Int
  | [], _ => -1
  | x :: xs, i => if g x = true then (i : Int) else indexV g xs (i + 1)
theorem indexV_iff (g : S25 → Bool) : ∀ (xs : List S25) (i : Nat), (0 : Int) ≤ indexV g xs i ↔ xs.any g = true := by
  intro xs
  induction xs with
  | nil => intro i; simp [indexV]
  | cons x xs ih =>
    intro i
    simp only [List.any_cons]
    by_cases h : g x = true
    · have e : indexV g (x :: xs) i = (i : Int) := if_pos h
      rw [e, h]
      simp
    · have e : indexV g (x :: xs) i = indexV g xs (i + 1) := if_neg h
      rw [e, ih (i + 1)]
      simp [h]
theorem indexV_nat (g : S25 → Bool) (xs : List S25) (i : Nat) : decide ((0 : Int) ≤ indexV g xs i) = xs.any g := by
  have h := indexV_iff g xs i
  by_cases k : (0 : Int) ≤ indexV g xs i
  · rw [decide_eq_true k, h.1 k]
  · rw [decide_eq_false k]
    cases e : xs.any g with
    | false => rfl
    | true => exact absurd (h.2 e) k
theorem rd_lit (s : List S25) (i : Nat) (h : i < s.length) : rd_T25 s (i : Int) = s[i] := by
  simp [rd_T25, List.getElem?_eq_getElem h]
/-- What a closure answers at each of some literals, in whatever world behind the first. -/
def Asks (f : Nat) (caps : Array Value) (g : S25 → Bool) (ls : List S25) (w : World) : Prop :=
  ∀ (x : S25) (A : Option Addr) (c : Nat) (w' : World), x ∈ ls → Below w.heap.size w w' → x.f1.length ≤ c → Kd.C (Kd.int .i64) w' A x.f1.length x.f1 →
    Calls Tryd.prog f (#[.agg #[.bool x.f0, .slice A x.f1.length c]] ++ caps) w' fun e w2 => e = .returned (.bool (g x)) ∧ Below w'.heap.size w' w2
set_option maxHeartbeats 1000000 in
set_option maxRecDepth 100000 in
theorem index_one (p1 : Addr) (g : S25 → Bool) (A0 : Option Addr) (c0 : Nat) (ls : List S25) (w : World) (hr0 : Kd.C k25 w A0 ls.length ls) (hc0 : ls.length ≤ c0) (ha : Asks 33 #[.pointer (some p1)] g ls w) :
    Calls Tryd.prog 46 #[.slice A0 ls.length c0, .func (.func 33) #[] #[.pointer (some p1)]] w fun e w' => e = .returned (.int .i64 (indexV g ls 0)) ∧ Below w.heap.size w w' := by
  obtain ⟨R, hR⟩ : ∃ R, indexV g ls 0 = R := ⟨_, rfl⟩
  rw [hR]
  have hub := Tryd.underlying25
  have hlen : ls.length ≤ maxLen := hr0.2.1
  have HR := Aside0.mk hR
  have HR0 := Aside0.mk hr0
  have HA := Aside0.mk ha
  have HL := Aside0.mk hlen
  clear hR hr0 ha hlen
  go_enter Tryd.func46, Tryd.ntmps46
  go_wp2
  go_loopg [8] (ls.length + 1) (fun kq v8 w' => ∃ (i : Nat), v8 = .int .i64 i ∧ Aside0 (i ≤ ls.length ∧ kq + i = ls.length + 1) ∧ Aside0 (indexV g (ls.drop i) i = R) ∧ Aside0 (Below w.heap.size w w'))
  case atStart => exact ⟨0, rfl, ⟨by omega, by omega⟩, HR, ⟨Below.refl _ _⟩⟩
  case round =>
    clear HR
    obtain ⟨i, rfl, HI, HR, HB⟩ := hrel
    by_cases hi : i < ls.length
    · have hsl := HL.out
      unfold maxLen at hsl
      have hi0 : (0 : Int) ≤ (i : Int) := by omega
      have hi1 : (i : Int) < (ls.length : Int) := by omega
      have HW1 := Aside0.mk (wrap_nat i (by omega))
      obtain ⟨ad, XA, xc, rfl, hx0, hx1, hxl, hxC⟩ := at_T25 HR0.out (i : Int) hi0 hi1
      obtain ⟨b, hb⟩ : ∃ b, b = rd_T25 ls (i : Int) := ⟨_, rfl⟩
      rw [← hb] at hx0 hx1 hxl hxC
      rw [Int.toNat_natCast] at hx0 hx1
      have hbm : b ∈ ls := by rw [hb, rd_lit ls i hi]; exact List.getElem_mem _
      have hbd : ls.drop i = b :: ls.drop (i + 1) := by rw [hb, rd_lit ls i hi, List.drop_eq_getElem_cons hi]
      obtain ⟨b0, b1⟩ := b
      simp only at hx0 hx1 hxl hxC
      replace hx0 := pw_cell_below HB.out hx0
      replace hx1 := pw_cell_below HB.out hx1
      have hr := HR.out
      rw [hbd] at hr
      simp only [indexV] at hr
      have HCALL := Aside0.mk (show Calls Tryd.prog 33 #[.agg #[.bool b0, .slice XA b1.length xc], .pointer (some p1)] wr fun e w2 => e = .returned (.bool (g ⟨b0, b1⟩)) ∧ Below wr.heap.size wr w2 from HA.out ⟨b0, b1⟩ XA xc wr hbm HB.out hxl (Kd.C_below hxC HB.out))
      clear hb hbm hbd hxl hxC HR hsl
      cases hg : g ⟨b0, b1⟩ with
      | true =>
        rw [if_pos hg] at hr
        have HR := Aside0.mk hr
        have HG := Aside0.mk hg
        clear hr hg
        go_wp2_with (go_at_call 33; (with_reducible refine HCALL.out.mono ?_); rw [HG.out]; rintro e w2 ⟨rfl, hb2⟩; have HB2 := Aside0.mk (below_step HB.out hb2); clear hb2)
        go_ret
        exact ⟨by rw [← HR.out]; rfl, by repeat (first | (with_reducible first | exact HB2.out | apply below_alloc | apply pw_below_drewN | apply below_drew1) | exact HB2.out)⟩
      | false =>
        rw [if_neg (by rw [hg]; decide)] at hr
        have HR := Aside0.mk hr
        have HG := Aside0.mk hg
        clear hr hg
        go_wp2_with (go_at_call 33; (with_reducible refine HCALL.out.mono ?_); rw [HG.out]; rintro e w2 ⟨rfl, hb2⟩; have HB2 := Aside0.mk (below_step HB.out hb2); clear hb2)
        go_roundg (gk - 1)
        case measure => have := HI.out; omega
        case rel => exact ⟨i + 1, by first | exact congrArg (Value.int .i64) HW1.out | rfl | go_num | (simp; done), ⟨by have := HI.out; omega, by have := HI.out; omega⟩, HR, ⟨by repeat (first | (with_reducible first | exact HB2.out | apply below_alloc | apply pw_below_drewN | apply below_drew1) | exact HB2.out)⟩⟩
    · obtain rfl : i = ls.length := by have := HI.out; omega
      have hr := HR.out
      rw [List.drop_length] at hr
      have HR := Aside0.mk hr
      clear hi hr
      go_wp2
      go_ret
      exact ⟨by rw [← HR.out]; rfl, HB.out⟩
set_option maxHeartbeats 1000000 in
set_option maxRecDepth 100000 in
theorem contains_one (p1 : Addr) (g : S25 → Bool) (A0 : Option Addr) (c0 : Nat) (ls : List S25) (w : World) (hr0 : Kd.C k25 w A0 ls.length ls) (hc0 : ls.length ≤ c0) (ha : Asks 33 #[.pointer (some p1)] g ls w) :
    Calls Tryd.prog 32 #[.slice A0 ls.length c0, .func (.func 33) #[] #[.pointer (some p1)]] w fun e w' => e = .returned (.bool (ls.any g)) ∧ Below w.heap.size w w' := by
  have hk := indexV_nat g ls 0
  obtain ⟨r, hr⟩ : ∃ r, r = indexV g ls 0 := ⟨_, rfl⟩
  have HI := Aside0.mk (index_one p1 g A0 c0 ls w hr0 hc0 ha)
  rw [← hr] at HI hk
  rw [← hk]
  have HK := Aside0.mk hk
  clear hk hr hr0 ha
  go_enter Tryd.func32, Tryd.ntmps32
  go_wp2_with (go_at_call 46; (with_reducible refine HI.out.mono ?_); rintro e w2 ⟨rfl, hb2⟩; have HB2 := Aside0.mk hb2; clear hb2)
  go_ret
  exact ⟨rfl, HB2.out⟩
set_option maxHeartbeats 1000000 in
set_option maxRecDepth 100000 in
theorem index_two (p1 p2 : Addr) (g : S25 → Bool) (A0 : Option Addr) (c0 : Nat) (ls : List S25) (w : World) (hr0 : Kd.C k25 w A0 ls.length ls) (hc0 : ls.length ≤ c0) (ha : Asks 34 #[.pointer (some p1), .pointer (some p2)] g ls w) :
    Calls Tryd.prog 46 #[.slice A0 ls.length c0, .func (.func 34) #[] #[.pointer (some p1), .pointer (some p2)]] w fun e w' => e = .returned (.int .i64 (indexV g ls 0)) ∧ Below w.heap.size w w' := by
  obtain ⟨R, hR⟩ : ∃ R, indexV g ls 0 = R := ⟨_, rfl⟩
  rw [hR]
  have hub := Tryd.underlying25
  have hlen : ls.length ≤ maxLen := hr0.2.1
  have HR := Aside0.mk hR
  have HR0 := Aside0.mk hr0
  have HA := Aside0.mk ha
  have HL := Aside0.mk hlen
  clear hR hr0 ha hlen
  go_enter Tryd.func46, Tryd.ntmps46
  go_wp2
  go_loopg [8] (ls.length + 1) (fun kq v8 w' => ∃ (i : Nat), v8 = .int .i64 i ∧ Aside0 (i ≤ ls.length ∧ kq + i = ls.length + 1) ∧ Aside0 (indexV g (ls.drop i) i = R) ∧ Aside0 (Below w.heap.size w w'))
  case atStart => exact ⟨0, rfl, ⟨by omega, by omega⟩, HR, ⟨Below.refl _ _⟩⟩
  case round =>
    clear HR
    obtain ⟨i, rfl, HI, HR, HB⟩ := hrel
    by_cases hi : i < ls.length
    · have hsl := HL.out
      unfold maxLen at hsl
      have hi0 : (0 : Int) ≤ (i : Int) := by omega
      have hi1 : (i : Int) < (ls.length : Int) := by omega
      have HW1 := Aside0.mk (wrap_nat i (by omega))
      obtain ⟨ad, XA, xc, rfl, hx0, hx1, hxl, hxC⟩ := at_T25 HR0.out (i : Int) hi0 hi1
      obtain ⟨b, hb⟩ : ∃ b, b = rd_T25 ls (i : Int) := ⟨_, rfl⟩
      rw [← hb] at hx0 hx1 hxl hxC
      rw [Int.toNat_natCast] at hx0 hx1
      have hbm : b ∈ ls := by rw [hb, rd_lit ls i hi]; exact List.getElem_mem _
      have hbd : ls.drop i = b :: ls.drop (i + 1) := by rw [hb, rd_lit ls i hi, List.drop_eq_getElem_cons hi]
      obtain ⟨b0, b1⟩ := b
      simp only at hx0 hx1 hxl hxC
      replace hx0 := pw_cell_below HB.out hx0
      replace hx1 := pw_cell_below HB.out hx1
      have hr := HR.out
      rw [hbd] at hr
      simp only [indexV] at hr
      have HCALL := Aside0.mk (show Calls Tryd.prog 34 #[.agg #[.bool b0, .slice XA b1.length xc], .pointer (some p1), .pointer (some p2)] wr fun e w2 => e = .returned (.bool (g ⟨b0, b1⟩)) ∧ Below wr.heap.size wr w2 from HA.out ⟨b0, b1⟩ XA xc wr hbm HB.out hxl (Kd.C_below hxC HB.out))
      clear hb hbm hbd hxl hxC HR hsl
      cases hg : g ⟨b0, b1⟩ with
      | true =>
        rw [if_pos hg] at hr
        have HR := Aside0.mk hr
        have HG := Aside0.mk hg
        clear hr hg
        go_wp2_with (go_at_call 34; (with_reducible refine HCALL.out.mono ?_); rw [HG.out]; rintro e w2 ⟨rfl, hb2⟩; have HB2 := Aside0.mk (below_step HB.out hb2); clear hb2)
        go_ret
        exact ⟨by rw [← HR.out]; rfl, by repeat (first | (with_reducible first | exact HB2.out | apply below_alloc | apply pw_below_drewN | apply below_drew1) | exact HB2.out)⟩
      | false =>
        rw [if_neg (by rw [hg]; decide)] at hr
        have HR := Aside0.mk hr
        have HG := Aside0.mk hg
        clear hr hg
        go_wp2_with (go_at_call 34; (with_reducible refine HCALL.out.mono ?_); rw [HG.out]; rintro e w2 ⟨rfl, hb2⟩; have HB2 := Aside0.mk (below_step HB.out hb2); clear hb2)
        go_roundg (gk - 1)
        case measure => have := HI.out; omega
        case rel => exact ⟨i + 1, by first | exact congrArg (Value.int .i64) HW1.out | rfl | go_num | (simp; done), ⟨by have := HI.out; omega, by have := HI.out; omega⟩, HR, ⟨by repeat (first | (with_reducible first | exact HB2.out | apply below_alloc | apply pw_below_drewN | apply below_drew1) | exact HB2.out)⟩⟩
    · obtain rfl : i = ls.length := by have := HI.out; omega
      have hr := HR.out
      rw [List.drop_length] at hr
      have HR := Aside0.mk hr
      clear hi hr
      go_wp2
      go_ret
      exact ⟨by rw [← HR.out]; rfl, HB.out⟩
set_option maxHeartbeats 1000000 in
set_option maxRecDepth 100000 in
theorem contains_two (p1 p2 : Addr) (g : S25 → Bool) (A0 : Option Addr) (c0 : Nat) (ls : List S25) (w : World) (hr0 : Kd.C k25 w A0 ls.length ls) (hc0 : ls.length ≤ c0) (ha : Asks 34 #[.pointer (some p1), .pointer (some p2)] g ls w) :
    Calls Tryd.prog 32 #[.slice A0 ls.length c0, .func (.func 34) #[] #[.pointer (some p1), .pointer (some p2)]] w fun e w' => e = .returned (.bool (ls.any g)) ∧ Below w.heap.size w w' := by
  have hk := indexV_nat g ls 0
  obtain ⟨r, hr⟩ : ∃ r, r = indexV g ls 0 := ⟨_, rfl⟩
  have HI := Aside0.mk (index_two p1 p2 g A0 c0 ls w hr0 hc0 ha)
  rw [← hr] at HI hk
  rw [← hk]
  have HK := Aside0.mk hk
  clear hk hr hr0 ha
  go_enter Tryd.func32, Tryd.ntmps32
  go_wp2_with (go_at_call 46; (with_reducible refine HI.out.mono ?_); rintro e w2 ⟨rfl, hb2⟩; have HB2 := Aside0.mk hb2; clear hb2)
  go_ret
  exact ⟨rfl, HB2.out⟩
end Go.Proofs.YtfnemhkiopgeaaaDoor.PK
namespace Go.Proofs.YtfnemhkiopgeaaaDoor.PK
open Go Go.RowKit Go.Proofs.YtfnemhkiopgeaaaDoorW.PrintWords Go.Proofs.YtfnemhkiopgeaaaDoorW.PrintLast Go.Proofs.YtfnemhkiopgeaaaDoorW.PrintMore Go.Proofs.YtfnemhkiopgeaaaDoor
set_option linter.unusedVariables false
set_option linter.unusedSimpArgs false
set_option maxHeartbeats 1000000 in
set_option maxRecDepth 100000 in
theorem tops1_calls (k : Nat) (g1 : Nat) (A0 : Option Addr) (c0 : Nat) (l : List S58) (x : S25) (A : Option Addr) (c : Nat) (b : Bool) (w : World) (hp : w.cell? ⟨g1, 0, none⟩ = some (.slice A0 l.length c0)) (hr0 : Kd.C k58 w A0 l.length l) (hc0 : l.length ≤ c0)
    (hl : x.f1.length ≤ c) (hr : Kd.C (Kd.int .i64) w A x.f1.length x.f1) (h : lit_May.f k l x.f0 x.f1 = some b) (hG : Glob w) :
    Calls Tryd.prog 33 #[.agg #[.bool x.f0, .slice A x.f1.length c], .pointer (some ⟨g1, 0, none⟩)] w fun e w' => e = .returned (.bool (!b)) ∧ Below w.heap.size w w' := by
  have hub := Tryd.underlying25
  obtain ⟨x0, x1⟩ := x
  have HR0 := Aside0.mk hr0
  have HR := Aside0.mk hr
  have HL := Aside0.mk hl
  have H := Aside0.mk h
  have hpA : ∀ o, (w.alloc o).cell? ⟨g1, 0, none⟩ = some (.slice A0 l.length c0) := fun o => pw_cell_below (below_alloc (Below.refl _ _) o) hp
  clear hr0 hr hl h hp
  go_enter Tryd.func33, Tryd.ntmps33
  go_wp2_with fail
  refine (lit_May.calls k _ _ l x0 _ _ x1 b _ (Kd.C_alloc HR0.out _) hc0 (Kd.C_alloc HR.out _) HL.out H.out (hG.below (below_alloc (Below.refl _ _) _))).mono ?_
  rintro e w1 ⟨rfl, hb1⟩
  have HB := Aside0.mk (below_step (below_alloc (Below.refl w.heap.size w) _) hb1)
  clear hb1
  go_wp2
  go_ret
  exact ⟨rfl, HB.out⟩
set_option maxHeartbeats 1000000 in
set_option maxRecDepth 100000 in
theorem tops2_calls (k : Nat) (g1 g2 : Nat) (A0 : Option Addr) (c0 : Nat) (l : List S58) (x y : S25) (A A2 : Option Addr) (c cc : Nat) (r1 r2 : Int) (w : World) (hp : w.cell? ⟨g1, 0, none⟩ = some (.slice A0 l.length c0)) (hq0 : w.cell? ⟨g2, 0, none⟩ = some (.bool y.f0)) (hq1 : w.cell? ⟨g2, 1, none⟩ = some (.slice A2 y.f1.length cc))
    (hr0 : Kd.C k58 w A0 l.length l) (hc0 : l.length ≤ c0) (hl : x.f1.length ≤ c) (hr : Kd.C (Kd.int .i64) w A x.f1.length x.f1) (hl2 : y.f1.length ≤ cc) (hr2 : Kd.C (Kd.int .i64) w A2 y.f1.length y.f1) (h : lit_Compare.f k l x.f0 x.f1 y.f0 y.f1 = some (r1, r2)) (hG : Glob w) :
    Calls Tryd.prog 34 #[.agg #[.bool x.f0, .slice A x.f1.length c], .pointer (some ⟨g1, 0, none⟩), .pointer (some ⟨g2, 0, none⟩)] w fun e w' => e = .returned (.bool (r1 == 2)) ∧ Below w.heap.size w w' := by
  have hub := Tryd.underlying25
  obtain ⟨x0, x1⟩ := x
  obtain ⟨y0, y1⟩ := y
  have HR0 := Aside0.mk hr0
  have HR := Aside0.mk hr
  have HL := Aside0.mk hl
  have HR2 := Aside0.mk hr2
  have HL2 := Aside0.mk hl2
  have H := Aside0.mk h
  have hpA : ∀ o, (w.alloc o).cell? ⟨g1, 0, none⟩ = some (.slice A0 l.length c0) := fun o => pw_cell_below (below_alloc (Below.refl _ _) o) hp
  have hqA : ∀ o, (w.alloc o).cell? ⟨g2, 0, none⟩ = some (.bool y0) := fun o => pw_cell_below (below_alloc (Below.refl _ _) o) hq0
  have hqB : ∀ o, (w.alloc o).cell? ⟨g2, 1, none⟩ = some (.slice A2 y1.length cc) := fun o => pw_cell_below (below_alloc (Below.refl _ _) o) hq1
  clear hr0 hr hl h hp hq0 hq1 hr2 hl2
  go_enter Tryd.func34, Tryd.ntmps34
  go_wp2_with fail
  refine (lit_Compare.calls k _ _ l x0 _ _ x1 y0 _ _ y1 r1 r2 _ (Kd.C_alloc HR0.out _) hc0 (Kd.C_alloc HR.out _) HL.out (Kd.C_alloc HR2.out _) HL2.out H.out (hG.below (below_alloc (Below.refl _ _) _))).mono ?_
  rintro e w1 ⟨rfl, hb1⟩
  have HB := Aside0.mk (below_step (below_alloc (Below.refl w.heap.size w) _) hb1)
  clear hb1
  go_wp2
  go_ret
  exact ⟨rfl, HB.out⟩
/-- The places of those than which none is more. -/
def topsTo (g : S25 → Bool) (ls : List S25) : Nat → List Int
  | 0 => []
  | n + 1 => topsTo g ls n ++ (if g (ls.getD n z25) = true then [] else [(n : Int)])
theorem topsTo_len (g : S25 → Bool) (ls : List S25) : ∀ n, (topsTo g ls n).length ≤ n
  | 0 => Nat.le_refl _
  | n + 1 => by
    have := topsTo_len g ls n
    simp only [topsTo, List.length_append]
    split <;> simp <;> omega
def topsV (b : Bool) (mayB : S25 → Bool) (cmpV : S25 → S25 → Int) (ls : List S25) : List Int × Int :=
  if b = true ∧ ls.all mayB = true then (topsTo (fun x => ls.any (fun m => cmpV m x == 2)) ls ls.length, 0) else ([], 700)
theorem getD_lit (s : List S25) (i : Nat) : rd_T25 s (i : Int) = s.getD i z25 := by simp [rd_T25]
set_option maxHeartbeats 2000000 in
set_option maxRecDepth 100000 in
theorem tops_calls (k : Nat) (A0 : Option Addr) (c0 : Nat) (l : List S58) (A1 : Option Addr) (c1 : Nat) (ls : List S25) (b : Bool) (mayB : S25 → Bool) (cmpV : S25 → S25 → Int) (w : World)
    (hr0 : Kd.C k58 w A0 l.length l) (hc0 : l.length ≤ c0) (hr1 : Kd.C k25 w A1 ls.length ls) (hc1 : ls.length ≤ c1) (hls : ls.length < 17592186044416) (hs : sign_May.f k l = some b) (hm : b = true → ∀ x ∈ ls, lit_May.f k l x.f0 x.f1 = some (mayB x))
    (hc : b = true → ls.all mayB = true → ∀ m ∈ ls, ∀ x ∈ ls, ∃ e, lit_Compare.f k l m.f0 m.f1 x.f0 x.f1 = some (cmpV m x, e)) (hG : Glob w) :
    Calls Tryd.prog 19 #[.slice A0 l.length c0, .slice A1 ls.length c1] w fun e w' =>
      ∃ v, e = .returned (.tuple #[v, .int .i64 (topsV b mayB cmpV ls).2]) ∧ Kd.R (Kd.int .i64) 3 w' w.heap.size (fun _ => True) v (topsV b mayB cmpV ls).1 ∧ Below w.heap.size w w' := by
  have hub := Tryd.underlying25
  obtain ⟨⟨r1, r2⟩, hR⟩ : ∃ R, topsV b mayB cmpV ls = R := ⟨_, rfl⟩
  rw [hR]
  show Calls Tryd.prog 19 #[.slice A0 l.length c0, .slice A1 ls.length c1] w fun e w' => ∃ v, e = .returned (.tuple #[v, .int .i64 r2]) ∧ Kd.R (Kd.int .i64) 3 w' w.heap.size (fun _ => True) v r1 ∧ Below w.heap.size w w'
  have HR := Aside0.mk hR
  have HR0 := Aside0.mk hr0
  have HR1 := Aside0.mk hr1
  have HS := Aside0.mk hs
  have HM := Aside0.mk hm
  have HC := Aside0.mk hc
  have HLS := Aside0.mk hls
  have hpW : ∀ w', Below (w.alloc (.cells #[.slice A0 l.length c0] 22)).heap.size (w.alloc (.cells #[.slice A0 l.length c0] 22)) w' → w'.cell? ⟨w.heap.size, 0, none⟩ = some (.slice A0 l.length c0) := fun w' hb => pw_cell_below hb ((blk_cell (heap_alloc_new _ _) 0).trans rfl)
  have HPW := Aside0.mk hpW
  clear hR hr0 hr1 hs hm hc hls hpW
  have HB0 := Aside0.mk (Below.refl w.heap.size w)
  go_enter Tryd.func19, Tryd.ntmps19
  go_wp2_with fail
  refine (sign_May.calls k _ _ l b _ (Kd.C_alloc HR0.out _) hc0 HS.out (hG.below (below_alloc (Below.refl _ _) _))).mono ?_
  rintro e w1 ⟨rfl, hb1⟩
  have HP1 := Aside0.mk hb1
  have HB1 := Aside0.mk (below_step (below_alloc (Below.refl w.heap.size w) _) hb1)
  clear hb1
  cases b with
  | false =>
    have hr := HR.out
    unfold topsV at hr
    rw [if_neg (by simp)] at hr
    injection hr with e1 e2
    subst e1; subst e2
    clear HR
    go_wp2
    go_ret2
    exact ⟨_, rfl, Kd.R_nil _ _ _ _ _, HB1.out⟩
  | true =>
    have HMM := Aside0.mk (HM.out rfl)
    cases hall : ls.all mayB with
    | false =>
      have hr := HR.out
      unfold topsV at hr
      rw [if_neg (by rw [hall]; simp)] at hr
      injection hr with e1 e2
      subst e1; subst e2
      have HALL := Aside0.mk hall
      clear HR hall
      have hask : Asks 33 #[.pointer (some ⟨w.heap.size, 0, none⟩)] (fun x => !mayB x) ls w1 := by
        intro x A c w' hx hb hl hC
        exact tops1_calls k w.heap.size A0 c0 l x A c (mayB x) w' (HPW.out w' (below_step HP1.out hb)) (Kd.C_below HR0.out (below_step HB1.out hb)) hc0 hl hC (HMM.out x hx) (hG.below (below_step HB1.out hb))
      have HASK := Aside0.mk hask
      have hany : (ls.any fun x => !mayB x) = true := by
        have h := HALL.out
        rw [← Bool.not_eq_true, List.all_eq_true] at h
        rw [List.any_eq_true]
        apply Classical.byContradiction
        intro hn
        exact h (fun x hx => by
          cases e : mayB x with
          | true => rfl
          | false => exact absurd ⟨x, hx, by simp [e]⟩ hn)
      have HANY := Aside0.mk hany
      clear hask hany
      go_wp2_with (go_at_call 32; (with_reducible refine (contains_one ⟨w.heap.size, 0, none⟩ (fun x => !mayB x) A1 c1 ls _ (Kd.C_below HR1.out HB1.out) hc1 HASK.out).mono ?_); rw [HANY.out]; rintro e w2 ⟨rfl, hb2⟩; have HB2 := Aside0.mk (below_step HB1.out hb2); clear hb2)
      go_ret2
      exact ⟨_, rfl, Kd.R_nil _ _ _ _ _, HB2.out⟩
    | true =>
      obtain ⟨g, hg⟩ : ∃ g : S25 → Bool, g = fun x => ls.any (fun m => cmpV m x == 2) := ⟨_, rfl⟩
      have hr := HR.out
      unfold topsV at hr
      rw [if_pos ⟨rfl, hall⟩, ← hg] at hr
      injection hr with e1 e2
      subst e2
      have HE := Aside0.mk e1
      have HCC := Aside0.mk (HC.out rfl hall)
      have hany : (ls.any fun x => !mayB x) = false := by
        rw [List.all_eq_true] at hall
        rw [← Bool.not_eq_true, List.any_eq_true]
        rintro ⟨x, hx, e⟩
        rw [hall x hx] at e
        exact absurd e (by decide)
      have HANY := Aside0.mk hany
      have hask : Asks 33 #[.pointer (some ⟨w.heap.size, 0, none⟩)] (fun x => !mayB x) ls w1 := by
        intro x A c w' hx hb hl hC
        exact tops1_calls k w.heap.size A0 c0 l x A c (mayB x) w' (HPW.out w' (below_step HP1.out hb)) (Kd.C_below HR0.out (below_step HB1.out hb)) hc0 hl hC (HMM.out x hx) (hG.below (below_step HB1.out hb))
      have HASK := Aside0.mk hask
      have HGG := Aside0.mk hg
      clear hask hany e1 hg HR hall
      go_wp2_with (go_at_call 32; (with_reducible refine (contains_one ⟨w.heap.size, 0, none⟩ (fun x => !mayB x) A1 c1 ls _ (Kd.C_below HR1.out HB1.out) hc1 HASK.out).mono ?_); rw [HANY.out]; rintro e w2 ⟨rfl, hb2⟩; have HP2 := Aside0.mk (below_step HP1.out hb2); have HB2 := Aside0.mk (below_step HB1.out hb2); clear hb2)
      clear HASK HANY HP1 HB1
      go_loopg [6, 19] (ls.length + 1) (fun kq v6 v19 w' => ∃ (i : Nat), v19 = .int .i64 i ∧ Aside0 (i ≤ ls.length ∧ kq + i = ls.length + 1) ∧ Aside0 (Kd.R (Kd.int .i64) 3 w' w2.heap.size (fun _ => True) v6 (topsTo g ls i)) ∧ Aside0 (Below w2.heap.size w2 w'))
      case atStart => exact ⟨0, rfl, ⟨by omega, by omega⟩, ⟨Kd.R_nil _ _ _ _ _⟩, ⟨Below.refl _ _⟩⟩
      case round =>
        obtain ⟨i, rfl, HI, HO, HB⟩ := hrel
        by_cases hi : i < ls.length
        · have hsl := HLS.out
          have hi0 : (0 : Int) ≤ (i : Int) := by omega
          have hi1 : (i : Int) < (ls.length : Int) := by omega
          have HW1 := Aside0.mk (wrap_nat i (by omega))
          have HBw := Aside0.mk (below_step HB2.out HB.out)
          obtain ⟨ad, XA, xc, rfl, hx0, hx1, hxl, hxC⟩ := at_T25 HR1.out (i : Int) hi0 hi1
          obtain ⟨y, hy⟩ : ∃ y, y = rd_T25 ls (i : Int) := ⟨_, rfl⟩
          rw [← hy] at hx0 hx1 hxl hxC
          rw [Int.toNat_natCast] at hx0 hx1
          have hym : y ∈ ls := by rw [hy, rd_lit ls i hi]; exact List.getElem_mem _
          have HYD := Aside0.mk (show ls.getD i z25 = y by rw [hy, getD_lit])
          obtain ⟨y0, y1⟩ := y
          simp only at hx0 hx1 hxl hxC
          replace hx0 := pw_cell_below HBw.out hx0
          replace hx1 := pw_cell_below HBw.out hx1
          obtain ⟨W, hW⟩ : ∃ W, W = wr.alloc (.cells #[.bool y0, .slice XA y1.length xc] 25) := ⟨_, rfl⟩
          have hbW : Below wr.heap.size wr W := by rw [hW]; exact below_alloc (Below.refl _ _) _
          have hgW : W.heap[wr.heap.size]? = some (.cells #[.bool y0, .slice XA y1.length xc] 25 (0, 0)) := by rw [hW]; exact heap_alloc_new _ _
          have hask : Asks 34 #[.pointer (some ⟨w.heap.size, 0, none⟩), .pointer (some ⟨wr.heap.size, 0, none⟩)] (fun m => cmpV m ⟨y0, y1⟩ == 2) ls W := by
            intro x A c w' hx hb hl hC
            obtain ⟨e, he⟩ := HCC.out x hx ⟨y0, y1⟩ hym
            have hbb := below_step (below_step HBw.out hbW) hb
            exact tops2_calls k w.heap.size wr.heap.size A0 c0 l x ⟨y0, y1⟩ A XA c xc (cmpV x ⟨y0, y1⟩) e w' (HPW.out w' (below_step (below_step (below_step HP2.out HB.out) hbW) hb)) (pw_cell_below hb ((blk_cell hgW 0).trans rfl)) (pw_cell_below hb ((blk_cell hgW 1).trans rfl)) (Kd.C_below HR0.out hbb) hc0 hl hC hxl (Kd.C_below hxC hbb) he (hG.below hbb)
          have hcon := contains_two ⟨w.heap.size, 0, none⟩ ⟨wr.heap.size, 0, none⟩ (fun m => cmpV m ⟨y0, y1⟩ == 2) _ c1 ls W (Kd.C_below HR1.out (below_step HBw.out hbW)) hc1 hask
          have hgy : (ls.any fun m => cmpV m ⟨y0, y1⟩ == 2) = g ⟨y0, y1⟩ := by rw [HGG.out]
          rw [hgy] at hcon
          have HBW := Aside0.mk (below_step HB.out hbW)
          have HOW := Aside0.mk (Kd.R_below HO.out hbW)
          rw [hW] at hcon HBW HOW
          have HCON := Aside0.mk hcon
          have HTT := Aside0.mk (show topsTo g ls (i + 1) = topsTo g ls i ++ (if g ⟨y0, y1⟩ = true then [] else [(i : Int)]) by rw [← HYD.out]; rfl)
          clear hask hcon hgy hgW hbW hW hxl hxC hy hym hsl HB HO HBw
          cases hgv : g ⟨y0, y1⟩ with
          | true =>
            have HT := Aside0.mk (show topsTo g ls (i + 1) = topsTo g ls i by rw [HTT.out, if_pos hgv, List.append_nil])
            rw [hgv] at HCON
            clear hgv HTT
            go_wp2_with (go_at_call 32; (with_reducible refine HCON.out.mono ?_); rintro e w3 ⟨rfl, hb3⟩; have HB3 := Aside0.mk (below_step HBW.out hb3); have HO3 := Aside0.mk (Kd.R_below HOW.out hb3); clear hb3)
            go_roundg (gk - 1)
            case measure => have := HI.out; omega
            case rel => exact ⟨i + 1, by first | exact congrArg (Value.int .i64) HW1.out | rfl | go_num | (simp; done), ⟨by have := HI.out; omega, by have := HI.out; omega⟩, ⟨by rw [HT.out]; exact HO3.out⟩, HB3⟩
          | false =>
            have HT := Aside0.mk (show topsTo g ls (i + 1) = topsTo g ls i ++ [(i : Int)] by rw [HTT.out, if_neg (by rw [hgv]; decide)])
            rw [hgv] at HCON
            clear hgv HTT
            go_wp2_with (first | (go_at_call 32; (with_reducible refine HCON.out.mono ?_); rintro e w3 ⟨rfl, hb3⟩; have HB3 := Aside0.mk (below_step HBW.out hb3); have HO3 := Aside0.mk (Kd.R_below HOW.out hb3); clear hb3) | ((with_reducible refine gate_builtin (b := .append) (xs := #[.tmp 28, .tmp 30]) rfl ?_); at_builtin; refine Kd.R_append (Kd.int .i64) (w0 := w2) w2.heap.size rfl (.tmp 28) (.tmp 30) 23 3 (.int .i64 0) 8 rfl Tryd.underlying23 info3 rfl (by decide) (by omega) u6 (topsTo g ls i) (i : Int) [.int .i64 (i : Int)] (fun _ => True) (fun _ => False) rfl rfl ?aP (fun _ hk => hk.elim) ?aF ?aO ?aB ?aS ?aL ?_; (case aP => exact rfl); (case aB => exact (by repeat (first | (with_reducible first | exact HB3.out | apply below_alloc | apply pw_below_drewN | apply below_drew1) | exact HB3.out))); (case aF => exact (fun _ _ => trivial)); (case aO => exact (by (with_reducible repeat (first | apply Kd.R_alloc | apply Kd.R_drewN | apply Kd.R_drew)); exact HO3.out)); (case aS => exact (below_size (by repeat (first | (with_reducible first | exact HB3.out | apply below_alloc | apply pw_below_drewN | apply below_drew1) | exact HB3.out)))); (case aL => have := topsTo_len g ls i; have := HLS.out; omega); intro v7 w7 ho hb hg hat; have n0_ := Aside0.mk hb; have n1_ := Aside0.mk ho; clear ho hb hg hat))
            go_roundg (gk - 1)
            case measure => have := HI.out; omega
            case rel => exact ⟨i + 1, by first | exact congrArg (Value.int .i64) HW1.out | rfl | go_num | (simp; done), ⟨by have := HI.out; omega, by have := HI.out; omega⟩, ⟨by rw [HT.out]; exact n1_.out⟩, n0_⟩
        · obtain rfl : i = ls.length := by have := HI.out; omega
          have ho := HO.out
          rw [HE.out] at ho
          have HO := Aside0.mk ho
          clear hi ho
          go_wp2
          go_ret2
          exact ⟨_, rfl, Kd.R_lower HO.out (below_size HB2.out), below_step HB2.out HB.out⟩
end Go.Proofs.YtfnemhkiopgeaaaDoor.PK
namespace Go.Proofs.YtfnemhkiopgeaaaDoor.PK
open Go Go.RowKit Go.Proofs.YtfnemhkiopgeaaaDoorW.PrintWords Go.Proofs.YtfnemhkiopgeaaaDoorW.PrintLast Go.Proofs.YtfnemhkiopgeaaaDoorW.PrintMore Go.Proofs.YtfnemhkiopgeaaaDoor
set_option linter.unusedVariables false
set_option linter.unusedSimpArgs false
def mayF (k : Nat) (l : List S58) (x : S25) : Bool := (lit_May.f k l x.f0 x.f1).getD false
def cmpF (k : Nat) (l : List S58) (m x : S25) : Int := ((lit_Compare.f k l m.f0 m.f1 x.f0 x.f1).getD (0, 0)).1
def topsOk (k : Nat) (l : List S58) (ls : List S25) (b : Bool) : Prop := ls.length < 17592186044416 ∧ (b = true → ∀ x ∈ ls, (lit_May.f k l x.f0 x.f1).isSome = true) ∧ (b = true → ls.all (mayF k l) = true → ∀ m ∈ ls, ∀ x ∈ ls, (lit_Compare.f k l m.f0 m.f1 x.f0 x.f1).isSome = true)
instance (k : Nat) (l : List S58) (ls : List S25) (b : Bool) : Decidable (topsOk k l ls b) := inferInstanceAs (Decidable (_ ∧ _ ∧ _))
def topsF (k : Nat) (l : List S58) (ls : List S25) : Option (List Int × Int) := (sign_May.f k l).bind fun b => if topsOk k l ls b then some (topsV b (mayF k l) (cmpF k l) ls) else none
theorem topsTo_congr {g g' : S25 → Bool} {ls : List S25} (h : ∀ x ∈ ls, g x = g' x) : ∀ n, n ≤ ls.length → topsTo g ls n = topsTo g' ls n
  | 0, _ => rfl
  | n + 1, hn => by
    have hm : ls.getD n z25 ∈ ls := by
      rw [List.getD_eq_getElem?_getD, List.getElem?_eq_getElem (by omega)]
      exact List.getElem_mem _
    simp only [topsTo]
    rw [topsTo_congr h n (by omega), h _ hm]
theorem any_congr' {g g' : S25 → Bool} : ∀ {ls : List S25}, (∀ x ∈ ls, g x = g' x) → ls.any g = ls.any g'
  | [], _ => rfl
  | x :: xs, h => by
    rw [List.any_cons, List.any_cons, h x (List.mem_cons_self ..), any_congr' (fun y hy => h y (List.mem_cons_of_mem _ hy))]
theorem all_congr' {g g' : S25 → Bool} : ∀ {ls : List S25}, (∀ x ∈ ls, g x = g' x) → ls.all g = ls.all g'
  | [], _ => rfl
  | x :: xs, h => by
    rw [List.all_cons, List.all_cons, h x (List.mem_cons_self ..), all_congr' (fun y hy => h y (List.mem_cons_of_mem _ hy))]
theorem topsV_congr {b : Bool} {m m' : S25 → Bool} {c c' : S25 → S25 → Int} {ls : List S25} (hm : b = true → ∀ x ∈ ls, m x = m' x) (hc : b = true → ls.all m = true → ∀ x ∈ ls, ∀ y ∈ ls, c x y = c' x y) : topsV b m c ls = topsV b m' c' ls := by
  unfold topsV
  cases b with
  | false => rw [if_neg (by simp), if_neg (by simp)]
  | true =>
    have e := all_congr' (hm rfl)
    by_cases h : ls.all m = true
    · rw [if_pos ⟨rfl, h⟩, if_pos ⟨rfl, by rw [← e]; exact h⟩]
      congr 1
      refine topsTo_congr (fun x hx => any_congr' (fun y hy => ?_)) ls.length (Nat.le_refl _)
      rw [hc rfl h y hy x hx]
    · rw [if_neg (fun k => h k.2), if_neg (fun k => h (by rw [e]; exact k.2))]
theorem topsF_mono (l : List S58) (ls : List S25) (k : Nat) : LeO (topsF k l ls) (topsF (k + 1) l ls) := by
  intro r h
  unfold topsF at h ⊢
  obtain ⟨b, hb, h⟩ := Option.bind_eq_some_iff.1 h
  split at h
  · rename_i ho
    obtain ⟨h0, h1, h2⟩ := ho
    rw [sign_May.mono _ _ _ hb]
    have e1 : b = true → ∀ x ∈ ls, mayF k l x = mayF (k + 1) l x := by
      intro hb x hx
      obtain ⟨v, hv⟩ := Option.isSome_iff_exists.1 (h1 hb x hx)
      unfold mayF
      rw [hv, lit_May.mono _ _ _ _ _ hv]
    have e2 : b = true → ls.all (mayF k l) = true → ∀ x ∈ ls, ∀ y ∈ ls, cmpF k l x y = cmpF (k + 1) l x y := by
      intro hb ha x hx y hy
      obtain ⟨v, hv⟩ := Option.isSome_iff_exists.1 (h2 hb ha x hx y hy)
      unfold cmpF
      rw [hv, lit_Compare.mono _ _ _ _ _ _ _ hv]
    rw [Option.bind_some, if_pos]
    · rw [← topsV_congr e1 e2]
      exact h
    · refine ⟨h0, fun hb x hx => ?_, fun hb ha m hm x hx => ?_⟩
      · obtain ⟨v, hv⟩ := Option.isSome_iff_exists.1 (h1 hb x hx)
        rw [lit_May.mono _ _ _ _ _ hv]
        rfl
      · rw [← all_congr' (e1 hb)] at ha
        obtain ⟨v, hv⟩ := Option.isSome_iff_exists.1 (h2 hb ha m hm x hx)
        rw [lit_Compare.mono _ _ _ _ _ _ _ hv]
        rfl
  · cases h
theorem topsF_calls (k : Nat) (A0 : Option Addr) (c0 : Nat) (l : List S58) (A1 : Option Addr) (c1 : Nat) (ls : List S25) (r1 : List Int) (r2 : Int) (w : World)
    (hr0 : Kd.C k58 w A0 l.length l) (hc0 : l.length ≤ c0) (hr1 : Kd.C k25 w A1 ls.length ls) (hc1 : ls.length ≤ c1) (h : topsF k l ls = some (r1, r2)) (hG : Glob w) :
    Calls Tryd.prog 19 #[.slice A0 l.length c0, .slice A1 ls.length c1] w fun e w' =>
      ∃ v, e = .returned (.tuple #[v, .int .i64 r2]) ∧ Kd.R (Kd.int .i64) 3 w' w.heap.size (fun _ => True) v r1 ∧ Below w.heap.size w w' := by
  unfold topsF at h
  obtain ⟨b, hb, h⟩ := Option.bind_eq_some_iff.1 h
  split at h
  · rename_i ho
    obtain ⟨h0, h1, h2⟩ := ho
    have h' := tops_calls k A0 c0 l A1 c1 ls b (mayF k l) (cmpF k l) w hr0 hc0 hr1 hc1 h0 hb (fun hb x hx => by
      obtain ⟨v, hv⟩ := Option.isSome_iff_exists.1 (h1 hb x hx)
      unfold mayF
      rw [hv]
      rfl) (fun hb ha m hm x hx => by
      obtain ⟨v, hv⟩ := Option.isSome_iff_exists.1 (h2 hb ha m hm x hx)
      unfold cmpF
      rw [hv]
      exact ⟨v.2, rfl⟩) hG
    rw [Option.some.inj h] at h'
    exact h'
  · cases h
end Go.Proofs.YtfnemhkiopgeaaaDoor.PK
