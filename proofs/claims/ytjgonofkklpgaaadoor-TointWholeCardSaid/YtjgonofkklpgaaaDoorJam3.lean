/- The contract of jam.Cut, all counts. -/
import Derived.Test.YtjgonofkklpgaaaDoorJam2
import Derived.Deep.Cut
namespace Go.Proofs.YtjgonofkklpgaaaDoor
open Go.RowKit

theorem wideRight_zero (a : Nat) (w : World) (ha : a < top6) (hT : Tab w) :
    Calls Tryd.prog 121 #[W a, .int .i64 0] w fun e w' => e = .returned (.tuple #[W a, .bool false]) ∧ Below w.heap.size w w' := by
  have := wideRight_n a 0 w ha hT
  rw [show (0 : Int).toNat = 0 from rfl, Nat.pow_zero, Nat.div_one, Nat.mod_one, decide_eq_true rfl] at this
  exact this
theorem wideRight_big (a : Nat) (w : World) (ha : a < top6) (hT : Tab w) :
    Calls Tryd.prog 121 #[W a, .int .i64 385] w fun e w' => e = .returned (.tuple #[W 0, .bool (!decide (a = 0))]) ∧ Below w.heap.size w w' := by
  obtain ⟨x, hx⟩ : ∃ x : Int, x = 385 := ⟨_, rfl⟩
  have := wideRight_n a x w ha hT
  rw [div_pow_big a _ ha (by omega), mod_pow_big a _ ha (by omega), hx] at this
  exact this
set_option maxHeartbeats 6400000 in
set_option maxRecDepth 100000 in
theorem jamCut_zero (a : Nat) (x : Int) (w : World) (ha : a < top6) (hT : Tab w) (hc : min (max x 0) 385 = 0) :
    Calls Tryd.prog 58 #[W a, .int .i64 x] w fun e w' => e = .returned (.tuple #[W (a), .int .i64 (-1), .bool (true)]) ∧ Below w.heap.size w w' := by
  have sa := limbs_size a
  have HA := Lib.hid ha
  have HT := Lib.hid hT
  clear ha hT
  go_enter Tryd.func58, Tryd.ntmps58
  go_wp2_with fail
  refine (wideRight_zero a _ HA.out (HT.out.below (((Below.refl _ _).alloc (Nat.le_refl _) _).alloc (by simp) _))).mono ?_
  rintro e w1 ⟨rfl, hb1⟩
  have b4 : Blk 35 w1 (w.heap.size + 1) (limbs 0) := by
    rw [limbs_zero]
    have := (Blk.new (T := 35) (w.alloc (.cells (limbs a) 35)) #[.int .u64 0, .int .u64 0, .int .u64 0, .int .u64 0, .int .u64 0, .int .u64 0]).below hb1 (by simp)
    simpa using this
  obtain ⟨f0, f1, f2, f3, f4, f5⟩ := b4.six_free
  obtain ⟨d0, d1, d2, d3, d4, d5⟩ := b4.six
  go_upto_region 3 with (fail)
  have hb := below_put6 (((((Below.refl w.heap.size w).alloc (Nat.le_refl _) _).alloc (by simp) _).trans (hb1.mono (by simp <;> omega)))) (by omega : w.heap.size ≤ w.heap.size + 1) (a)
  replace b4 := b4.put6 rfl (a)
  clear f0 f1 f2 f3 f4 f5 d0 d1 d2 d3 d4 d5 hb1
  change Code.wp _ _ _ _ (put6 w1 (w.heap.size + 1) (a))
  generalize put6 w1 (w.heap.size + 1) (a) = u at *
  obtain ⟨f0, f1, f2, f3, f4, f5⟩ := b4.six_free
  obtain ⟨d0, d1, d2, d3, d4, d5⟩ := b4.six
  go_wp2_with fail
  have hk := b4.again
  unfold put6 at hk
  rw [hk]
  exact bodyPost_ret (v := .tuple #[W (a), .int .i64 (-1), .bool (true)]) (by simp [results, Tryd.results58, go_sem, d0, d1, d2, d3, d4, d5, limbs]) rfl ⟨rfl, hb⟩
set_option maxHeartbeats 6400000 in
set_option maxRecDepth 100000 in
theorem jamCut_big (a : Nat) (x : Int) (w : World) (ha : a < top6) (hT : Tab w) (hc : min (max x 0) 385 = 385) :
    Calls Tryd.prog 58 #[W a, .int .i64 x] w fun e w' => e = .returned (.tuple #[W (0), .int .i64 (-1), .bool (decide (a = 0))]) ∧ Below w.heap.size w w' := by
  have sa := limbs_size a
  have HA := Lib.hid ha
  have HT := Lib.hid hT
  obtain ⟨z, hz⟩ : ∃ z, decide (a = 0) = z := ⟨_, rfl⟩
  rw [hz]
  clear ha hT
  go_enter Tryd.func58, Tryd.ntmps58
  go_wp2_with fail
  refine (wideRight_big a _ HA.out (HT.out.below (((Below.refl _ _).alloc (Nat.le_refl _) _).alloc (by simp) _))).mono ?_
  rw [hz]
  rintro e w1 ⟨rfl, hb1⟩
  have b4 : Blk 35 w1 (w.heap.size + 1) (limbs 0) := by
    rw [limbs_zero]
    have := (Blk.new (T := 35) (w.alloc (.cells (limbs a) 35)) #[.int .u64 0, .int .u64 0, .int .u64 0, .int .u64 0, .int .u64 0, .int .u64 0]).below hb1 (by simp)
    simpa using this
  obtain ⟨f0, f1, f2, f3, f4, f5⟩ := b4.six_free
  obtain ⟨d0, d1, d2, d3, d4, d5⟩ := b4.six
  go_upto_region 3 with (fail)
  have hb := below_put6 (((((Below.refl w.heap.size w).alloc (Nat.le_refl _) _).alloc (by simp) _).trans (hb1.mono (by simp <;> omega)))) (by omega : w.heap.size ≤ w.heap.size + 1) (0)
  replace b4 := b4.put6 rfl (0)
  clear f0 f1 f2 f3 f4 f5 d0 d1 d2 d3 d4 d5 hb1
  change Code.wp _ _ _ _ (put6 w1 (w.heap.size + 1) (0))
  generalize put6 w1 (w.heap.size + 1) (0) = u at *
  obtain ⟨f0, f1, f2, f3, f4, f5⟩ := b4.six_free
  obtain ⟨d0, d1, d2, d3, d4, d5⟩ := b4.six
  go_wp2_with fail
  have hk := b4.again
  unfold put6 at hk
  rw [hk]
  exact bodyPost_ret (v := .tuple #[W (0), .int .i64 (-1), .bool (z)]) (by simp [results, Tryd.results58, go_sem, d0, d1, d2, d3, d4, d5, limbs]) rfl ⟨rfl, hb⟩
theorem jamCut_any (a : Nat) (x : Int) (w : World) (ha : a < top6) (hT : Tab w) :
    Calls Tryd.prog 58 #[W a, .int .i64 x] w fun e w' => e = .returned (.tuple #[W (a / 2 ^ x.toNat), .int .i64 (halfN a x.toNat), .bool (decide (a % 2 ^ x.toNat = 0))]) ∧ Below w.heap.size w w' := by
  by_cases h0 : x ≤ 0
  · have := jamCut_zero a x w ha hT (by omega)
    rw [show x.toNat = 0 by omega, Nat.pow_zero, Nat.div_one, Nat.mod_one]
    exact this
  · by_cases h1 : x ≤ 384
    · have := jamCut_in a (x.toNat - 1) w ha hT (by omega)
      rw [show ((x.toNat - 1 : Nat) : Int) + 1 = x by omega, show x.toNat - 1 + 1 = x.toNat by omega] at this
      exact this
    · have := jamCut_big a x w ha hT (by omega)
      rw [div_pow_big a _ ha (by omega), mod_pow_big a _ ha (by omega)]
      unfold halfN
      rw [if_neg (by omega), testBit_big a _ ha (by omega)]
      exact this
end Go.Proofs.YtjgonofkklpgaaaDoor
