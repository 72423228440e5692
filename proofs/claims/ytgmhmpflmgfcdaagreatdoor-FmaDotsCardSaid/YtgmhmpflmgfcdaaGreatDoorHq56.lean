/- Part 56 of the proof. -/
import Derived.Deep.SlicePairs
import Derived.Test.YtgmhmpflmgfcdaaGreatDoorHq5
import Derived.Test.YtgmhmpflmgfcdaaGreatDoorHq49
import Derived.Test.YtgmhmpflmgfcdaaGreatDoorHq53
set_option linter.unusedSimpArgs false
set_option linter.unusedVariables false
set_option linter.unnecessarySimpa false
set_option maxRecDepth 100000
set_option maxHeartbeats 3200000
namespace Go.Proofs.YtgmhmpflmgfcdaaGreatDoor
open Go.ChangeShapes Go.WideShapes Go.ChangeAt Go.RowKit Go.Deep
theorem open_list {H : Type} {enc : TypeId × Value → H} {W : World} {r : Reach} {base b0 : Nat} {spare : Nat → Bool} {held : Bool} {v : Value} {d : DataW H} {p : List MemPlace}
  (hv : Value.okWide Tryz.prog W r b0 48 v) (h : DataW.Trod enc Tryz.prog W base spare held 48 v d p) : ∃ l : List Nat, (∀ b ∈ l, b < 2 ^ (64 * 2)) ∧ Sl W v l := by
 obtain ⟨a0, len0, cap0, rfl⟩ := okWide_slice Tryz.underlying48 hv
 obtain ⟨m, hm⟩ := h
 have hm' : DataW.trod enc Tryz.prog W base spare held m 48 [.slice a0 len0 cap0] = some (d, p) := hm
 have cu : Tryz.prog.cellsOf 25 = 1 := by kernel_rfl
 rcases open_slice_pairs Tryz.underlying48 Tryz.underlying27 bits_cells rfl rfl cu cu hm' with ⟨h0, -⟩ | ⟨ad, len, cap, q, n, V0, V1, D0, D1, P0, P1, hcs, -, hl, -, hq, -, hall⟩
 ·simp only [List.cons.injEq, and_true] at h0
  exact ⟨[], (by intro b hb; cases hb), Or.inl ⟨none, 0, h0, rfl, fun _ => rfl⟩⟩
 ·simp only [List.cons.injEq, and_true] at hcs
  have hlq : len ≤ q := by rw [hq]; split <;> omega
  rcases Nat.eq_zero_or_pos len with rfl | hpos
  ·exact ⟨[], (by intro b hb; cases hb), Or.inl ⟨some ad, cap, hcs, rfl, fun h => by cases h⟩⟩
  obtain ⟨g, o, spot⟩ := ad
  have hspot : spot = none := by simpa [Addr.add] using World.cell?_spot (hall 0 (by omega)).1
  subst hspot
  have each : ∀ i, i < q → ∃ b : Nat, b < 2 ^ (64 * 2) ∧ V0 i = .int .u64 (limb b 1) ∧ V1 i = .int .u64 (limb b 0) := by
   intro i hi
   obtain ⟨-, -, t0, t1⟩ := hall i hi
   obtain ⟨x, e0, -, wx⟩ := DataW.trod_int Tryz.underlying25 t0
   obtain ⟨y, e1, -, wy⟩ := DataW.trod_int Tryz.underlying25 t1
   simp only [List.cons.injEq, and_true] at e0 e1
   have bx := bounds_u64 wx
   have bY := bounds_u64 wy
   obtain ⟨x', rfl⟩ : ∃ x' : Nat, x = x' := ⟨x.toNat, by omega⟩
   obtain ⟨y', rfl⟩ : ∃ y' : Nat, y = y' := ⟨y.toNat, by omega⟩
   obtain ⟨b, hb, hlt⟩ := two_words x' y' (by omega) (by omega)
   injection hb with hb
   have h2 := congrArg Array.toList hb
   simp only [List.cons.injEq, and_true] at h2
   exact ⟨b, hlt, by rw [e0, h2.1], by rw [e1, h2.2]⟩
  obtain ⟨B, hB⟩ := choose_lt each
  refine ⟨(List.range len).map B, ?_, Or.inr ⟨g, o, len, cap, hcs, hpos, hl, by simp, ?_, ?_⟩⟩
  ·intro b hb
   obtain ⟨i, hi, rfl⟩ := List.mem_map.1 hb
   exact (hB i (by have := List.mem_range.1 hi; omega)).1
  ·exact World.block_lt_of_cell? W _ (hall 0 (by omega)).1
  ·intro k b hk
   have hkl : k < len := by have := (List.getElem?_eq_some_iff.1 hk).1; simpa using this
   have hbk : B k = b := by simpa [hkl] using hk
   obtain ⟨c0, c1, -, -⟩ := hall k (by omega)
   obtain ⟨-, v0, v1⟩ := hB k (by omega)
   rw [Addr.add_mid] at c0 c1
   rw [v0, hbk] at c0
   rw [v1, hbk] at c1
   exact range_two c0 c1
end Go.Proofs.YtgmhmpflmgfcdaaGreatDoor
