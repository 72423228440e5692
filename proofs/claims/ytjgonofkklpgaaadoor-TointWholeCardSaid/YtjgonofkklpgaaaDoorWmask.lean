/- The contract of wide.Mask. -/
import Derived.Test.YtjgonofkklpgaaaDoorWleft
namespace Go.Proofs.YtjgonofkklpgaaaDoor
open Go.RowKit

def clip64 (x : Int) : Nat := (min (max x 0) 64).toNat
theorem clip64_le (x : Int) : clip64 x ≤ 64 := by unfold clip64; omega

set_option maxHeartbeats 1600000 in
set_option maxRecDepth 100000 in
theorem wordCount_any (x : Int) (w : World) :
    Calls Tryd.prog 179 #[.int .i64 x] w fun e w' => e = .returned (.int .u64 (clip64 x : Nat)) ∧ w = w' := by
  have h : min (max x 0) 64 = ((clip64 x : Nat) : Int) := by unfold clip64; omega
  have H := Lib.hid h
  clear h
  go_enter Tryd.func179, Tryd.ntmps179
  go_wp2
  go_ret
  exact ⟨ret_int H.out, rfl⟩

def ones (k : Nat) : Nat := 2 ^ k - 1
theorem ones_lt (k : Nat) (h : k ≤ 64) : ones k < 18446744073709551616 := by
  unfold ones
  have := Nat.pow_le_pow_right (n := 2) (by decide) h
  have := Nat.two_pow_pos k
  rw [B64]; omega

set_option maxHeartbeats 1600000 in
set_option maxRecDepth 100000 in
theorem wordMask_any (x : Int) (w : World) :
    Calls Tryd.prog 159 #[.int .i64 x] w fun e w' => e = .returned (.int .u64 (ones (clip64 x) : Nat)) ∧ w = w' := by
  have hc := clip64_le x
  have H : Hid (IntKind.u64.wrap (IntKind.u64.wrap (2 ^ clip64 x) - 1) = ((ones (clip64 x) : Nat) : Int)) := by
    apply Lib.hid
    have h1 : 2 ^ clip64 x ≤ (18446744073709551616 : Nat) := by rw [B64]; exact Nat.pow_le_pow_right (by decide) hc
    have h2 := Nat.two_pow_pos (clip64 x)
    rw [IntKind.wrap_u64, IntKind.wrap_u64]
    unfold ones
    have e : (2 : Int) ^ clip64 x = ((2 ^ clip64 x : Nat) : Int) := by simp
    rw [e]
    generalize 2 ^ clip64 x = y at *
    omega
  go_enter Tryd.func159, Tryd.ntmps159
  go_wp2_with fail
  refine (wordCount_any _ _).mono ?_
  rintro e w' ⟨rfl, rfl⟩
  go_wp2
  go_ret
  exact ⟨ret_int H.out, rfl⟩

theorem limbN_ones (n i : Nat) : limbN (ones n) i = ones (clip64 ((n : Int) - 64 * (i : Int))) := by
  have e : ∀ k, clip64 ((n : Int) - 64 * (i : Int)) = k ↔ k = min (n - 64 * i) 64 := by
    intro k; unfold clip64; omega
  rw [(e _).2 rfl]
  apply Nat.eq_of_testBit_eq
  intro j
  unfold limbN ones
  rw [B64, Nat.testBit_mod_two_pow, Nat.testBit_div_two_pow, Nat.testBit_two_pow_sub_one, Nat.testBit_two_pow_sub_one]
  rw [Bool.eq_iff_iff]; simp; omega

set_option maxHeartbeats 3200000 in
set_option maxRecDepth 100000 in
theorem wideMask_any (x : Int) (w : World) :
    Calls Tryd.prog 123 #[.int .i64 x] w fun e w' => e = .returned (W (ones (clip x))) ∧ Below w.heap.size w w' := by
  obtain ⟨n, hn⟩ : ∃ n, clip x = n := ⟨_, rfl⟩
  have hc : min (max x 0) 384 = (n : Int) := by unfold clip at hn; omega
  have hn4 : n ≤ 384 := by omega
  rw [hn]
  clear hn
  go_enter Tryd.func123, Tryd.ntmps123
  go_wp2_with fail
  refine (wideCount_any _ _).mono ?_
  rw [hc]
  rintro e w' ⟨rfl, rfl⟩
  go_wp2_with fail
  go_loopw [7] (fun i wr => ∃ k : Nat, k ≤ 6 ∧ i = .int .i64 k ∧ Blk 35 wr (w.heap.size + 1) (fillTo (limbs 0) (fun i => .int .u64 (limb (ones n) i)) k) ∧
      Blk 35 wr w.heap.size (limbs 0) ∧ Below w.heap.size w wr) (fun i _ => 6 - (intOf i).toNat)
  case atStart =>
    refine ⟨0, by omega, rfl, ?_, ?_, (((Below.refl _ _).alloc (Nat.le_refl _) _).alloc (by simp) _)⟩
    · have := Blk.new (T := 35) (w.alloc (.cells #[.int .u64 0, .int .u64 0, .int .u64 0, .int .u64 0, .int .u64 0, .int .u64 0] 35)) #[.int .u64 0, .int .u64 0, .int .u64 0, .int .u64 0, .int .u64 0, .int .u64 0]
      rw [fillTo, limbs_zero]
      simpa using this
    · rw [limbs_zero]
      exact (Blk.new _ _).alloc _
  case round =>
    obtain ⟨k, hk, rfl, ha, hs, hbel⟩ := hrel
    by_cases hlt : k < 6
    · have ca := ha.cell k ((fillTo_hi _ _ k k (Nat.le_refl _)).trans (limbs_get 0 k hlt))
      have fa := ha.free k
      have w1 : IntKind.i64.wrap (64 * (k : Int)) = 64 * (k : Int) := IntWalk.i64_in _ (by omega)
      have w2 : IntKind.i64.wrap ((n : Int) - 64 * (k : Int)) = (n : Int) - 64 * (k : Int) := IntWalk.i64_in _ (by omega)
      go_wp2_with fail
      refine (wordMask_any _ _).mono ?_
      rintro e w' ⟨rfl, rfl⟩
      go_wp2
      go_roundw
      case rel => exact ⟨k + 1, by omega, by go_num, ha.set k _ (by rw [← limbN_ones]; rfl), hs.other _ _ (by simp), hbel.setCell (by simp) _⟩
      case measure => simp [intOf]; omega
    · have : k = 6 := by omega
      subst this
      rw [fillTo_all (limbs 0) _ (ones n) rfl (fun i _ => rfl)] at ha
      obtain ⟨c0, c1, c2, c3, c4, c5⟩ := ha.six
      obtain ⟨d0, d1, d2, d3, d4, d5⟩ := hs.six
      obtain ⟨f0, f1, f2, f3, f4, f5⟩ := hs.six_free
      clear hlt
      go_wp2_with fail
      have hr := hs.store6 rfl (.int .u64 (limb (ones n) 0)) (.int .u64 (limb (ones n) 1)) (.int .u64 (limb (ones n) 2)) (.int .u64 (limb (ones n) 3)) (.int .u64 (limb (ones n) 4)) (.int .u64 (limb (ones n) 5))
      obtain ⟨r0, r1, r2, r3, r4, r5⟩ := Blk.six (a := ones n) hr
      exact bodyPost_ret (v := W (ones n)) (by simp only [results, Tryd.results123]; simp [go_sem, r0, r1, r2, r3, r4, r5, limbs]) rfl ⟨rfl, below_set6 hbel (by omega) _ _ _ _ _ _⟩
end Go.Proofs.YtjgonofkklpgaaaDoor
