/- SignFull answers true for every number: nineteen symbols go beside the first, no more; the same name, and a bad symbol, are told ahead of that. No conditions. -/
import Derived.Test.YtmgombdimppnpaaDoorWantSignFull
import Derived.Test.YtmgombdimppnpaaDoorSignMore
import Derived.Test.YtmgombdimppnpaaDoorPSx0
import Derived.Test.YtmgombdimppnpaaDoorPSx4
import Derived.Test.YtmgombdimppnpaaDoorPSx5
import Derived.Test.YtmgombdimppnpaaDoorPSx8
namespace Go.Proofs.YtmgombdimppnpaaDoor.PS
open Go Go.RowKit Go.Proofs.YtmgombdimppnpaaDoorW.PrintWords Go.Proofs.YtmgombdimppnpaaDoorW.PrintLast Go.Proofs.YtmgombdimppnpaaDoor
def fullName (i : Nat) : ByteArray := (⟨#[97]⟩ : ByteArray) ++ strOfNums [((97 + i : Nat) : Int)]
def fullRow : Nat → List S33
  | 0 => [⟨⟨#[61]⟩, 0, 2, 1⟩]
  | i + 1 => fullRow i ++ [⟨fullName i, 1, 0, 1⟩]
theorem full_grows : ((List.range 19).all fun i => (sign_Add.f 60 (fullRow i) (fullName i) 1 0 1).any fun p => decide (p.2 = 0) && decide (p.1.length = i + 2)) = true := by kernel_rfl
theorem full_sizes : ((List.range 19).all fun i => decide ((strOfNums [((97 + i : Nat) : Int)]).size = 1)) = true := by kernel_rfl
theorem full_last : (sign_Add.f 60 (fullRow 19) (⟨#[98]⟩ : ByteArray) 1 0 1).map (·.2) = some 102 := by kernel_rfl
theorem full_bad : (sign_Add.f 60 (fullRow 19) (⟨#[98]⟩ : ByteArray) 1 0 21).map (·.2) = some 100 := by kernel_rfl
theorem full_twice : ((List.range 19).all fun i => (sign_Add.f 60 (fullRow 19) (fullName i) 1 0 1).any fun p => decide (p.2 = 101)) = true := by kernel_rfl
theorem full_length : ∀ i, (fullRow i).length = i + 1
  | 0 => rfl
  | i + 1 => by simp [fullRow, full_length i]
theorem add_at {l : List S33} {x : S33} {p : List S33 × Int} (h : sign_Add.f 60 l x.f0 x.f1 x.f2 x.f3 = some p) : AddV l x = p :=
  Ev.uniq (Add_ev l x) (Ev.at_ (fun k => sign_Add.mono _ _ _ _ _ k) 60 h)
theorem full_step (i : Nat) (h : i < 19) : AddV (fullRow i) ⟨fullName i, 1, 0, 1⟩ = (fullRow (i + 1), 0) := by
  have h1 := List.all_eq_true.1 full_grows i (List.mem_range.2 h)
  obtain ⟨p, hp, h2⟩ := Option.any_eq_true _ _ |>.1 h1
  have h3 := add_at (x := ⟨fullName i, 1, 0, 1⟩) hp
  simp only [Bool.and_eq_true, decide_eq_true_eq] at h2
  rw [← h3] at h2
  unfold AddV at h2 ⊢
  split at h2
  · rename_i hc
    rw [if_pos hc]
    split at h2
    · simp at h2
    · rename_i h4
      rw [if_neg h4]
      split at h2
      · simp at h2
      · rename_i h5
        rw [if_neg h5]
        rfl
  · simp at h2
theorem full_code (l : List S33) (x : S33) (c : Int) (h : (sign_Add.f 60 l x.f0 x.f1 x.f2 x.f3).map (·.2) = some c) : (AddV l x).2 = c := by
  obtain ⟨p, hp, h2⟩ := Option.map_eq_some_iff.1 h
  rw [add_at hp]
  exact h2
theorem num_byte (i : Nat) (h : i < 19) : (wrap64 (97 + (i : Int))) % 256 = ((97 + i : Nat) : Int) := by
  unfold wrap64
  omega
theorem num_size (i : Nat) (h : i < 19) : (strOfNums [((97 + i : Nat) : Int)]).size = 1 := by
  have := List.all_eq_true.1 full_sizes i (List.mem_range.2 h)
  simpa using this

theorem full_end (x : Int) : Ev (fun k => quaerelaw1_SignFull.l0 k x (fullRow 19) ((19 : Nat) : Int)) true := by
  obtain ⟨r, hr, he⟩ : ∃ r : Nat, r < 19 ∧ Int.tmod (IntKind.u64.wrap x) 19 = (r : Int) := by
    have h0 : 0 ≤ IntKind.u64.wrap x := by
      unfold IntKind.wrap
      simp [IntKind.signed]
      omega
    have h1 := Int.tmod_nonneg 19 h0
    have h2 : Int.tmod (IntKind.u64.wrap x) 19 < 19 := Int.tmod_lt_of_pos _ (by decide)
    exact ⟨(Int.tmod (IntKind.u64.wrap x) 19).toNat, by omega, by omega⟩
  have hw : (wrap64 (97 + wrap64 (Int.tmod (IntKind.u64.wrap x) 19))) % 256 = ((97 + r : Nat) : Int) := by
    rw [he]
    unfold wrap64
    omega
  refine Ev.step (f := fun k => (sign_Add.f k (fullRow 19) (⟨#[98]⟩ : ByteArray) 1 0 1).bind fun b1 => (sign_Add.f k (fullRow 19) (fullName r) 1 0 1).bind fun b2 => (sign_Add.f k (fullRow 19) (⟨#[98]⟩ : ByteArray) 1 0 21).bind fun b3 => if b1.2 = 102 then (if b2.2 = 101 then some (b3.2 == 100) else some false) else some false) (fun k => ?_) ?_
  · simp only [quaerelaw1_SignFull.l0]
    rw [if_neg (by omega)]
    congr 1
    funext b1
    rw [hw]
    simp only [Option.bind_some]
    rw [if_pos (by have := num_size r hr; omega)]
    have hl : (((fullRow 19).length : Nat) : Int) = 20 := by rw [full_length]; rfl
    simp only [hl, if_true, quaerelaw0_Num.f, Option.bind_some, fullName]
  · have a1 := full_code (fullRow 19) ⟨⟨#[98]⟩, 1, 0, 1⟩ 102 full_last
    have a3 := full_code (fullRow 19) ⟨⟨#[98]⟩, 1, 0, 21⟩ 100 full_bad
    have a2 : (AddV (fullRow 19) ⟨fullName r, 1, 0, 1⟩).2 = 101 := by
      have h1 := List.all_eq_true.1 full_twice r (List.mem_range.2 hr)
      obtain ⟨p, hp, h2⟩ := Option.any_eq_true _ _ |>.1 h1
      have h3 := add_at (x := ⟨fullName r, 1, 0, 1⟩) hp
      rw [h3]
      simpa using h2
    refine Ev.bind (Add_ev (fullRow 19) ⟨⟨#[98]⟩, 1, 0, 1⟩) (Ev.bind (Add_ev (fullRow 19) ⟨fullName r, 1, 0, 1⟩) (Ev.bind (Add_ev (fullRow 19) ⟨⟨#[98]⟩, 1, 0, 21⟩) ?_))
    refine Ev.if_pos a1 (Ev.if_pos a2 (Ev.some_ ?_))
    rw [a3]
    rfl

theorem full_loop (x : Int) : ∀ (d i : Nat), 19 - i = d → i ≤ 19 → Ev (fun k => quaerelaw1_SignFull.l0 k x (fullRow i) (i : Int)) true := by
  intro d
  induction d with
  | zero =>
    intro i hd hi
    obtain rfl : i = 19 := by omega
    exact full_end x
  | succ d ih =>
    intro i hd hi
    have hlt : i < 19 := by omega
    refine Ev.step (f := fun k => (sign_Add.f k (fullRow i) (fullName i) 1 0 1).bind fun b => if b.2 = 0 then quaerelaw1_SignFull.l0 k x b.1 ((i + 1 : Nat) : Int) else some false) (fun k => ?_) ?_
    · simp only [quaerelaw1_SignFull.l0]
      rw [if_pos (by omega), num_byte i hlt, wrap_nat i (by omega)]
      simp only [Option.bind_some]
      rw [if_pos (by have := num_size i hlt; omega)]
      rfl
    · refine Ev.bind (Add_ev (fullRow i) ⟨fullName i, 1, 0, 1⟩) ?_
      rw [full_step i hlt]
      exact Ev.if_pos rfl (ih (i + 1) (by omega) (by omega))
theorem quaerelaw1_SignFull.pure : quaerelaw1_SignFull.Pure := by
  intro x _
  refine Ev.get (g := fun k => quaerelaw1_SignFull.f k x) ?_
  unfold quaerelaw1_SignFull.f
  refine Ev.bind awake_ev (Ev.if_pos rfl ?_)
  exact full_loop x 19 0 rfl (by omega)
end Go.Proofs.YtmgombdimppnpaaDoor.PS
