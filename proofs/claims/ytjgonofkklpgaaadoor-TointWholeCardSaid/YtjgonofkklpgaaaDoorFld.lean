/- The contract of kind.fields. -/
import Derived.Test.YtjgonofkklpgaaaDoorJam3
import Derived.Test.YtjgonofkklpgaaaDoorFit
import Derived.Deep.RegionHeld3
namespace Go.Proofs.YtjgonofkklpgaaaDoor
open Go.RowKit

theorem exp_bits (x d : Nat) (hx : x < 18446744073709551616) (hd : d ≤ 15) :
    Go.bits .and .i64 (IntKind.i64.wrap (x : Int)) (IntKind.i64.wrap (IntKind.i64.wrap (2 ^ d) - 1)) = ((x % 2 ^ d : Nat) : Int) := by
  have y1 : 2 ^ d ≤ 2 ^ 15 := Nat.pow_le_pow_right (by decide) hd
  have y0 := Nat.two_pow_pos d
  have e : IntKind.i64.wrap (IntKind.i64.wrap ((2 : Int) ^ d) - 1) = ((2 ^ d - 1 : Nat) : Int) := by
    rw [show (2 : Int) ^ d = ((2 ^ d : Nat) : Int) by simp, IntKind.wrap_i64, IntKind.wrap_i64]
    generalize 2 ^ d = y at *
    omega
  rw [e]
  show IntKind.i64.wrap ((BitVec.ofInt 64 (IntKind.i64.wrap (x : Int)) &&& BitVec.ofInt 64 ((2 ^ d - 1 : Nat) : Int)).toNat : Nat) = _
  have hm : 2 ^ d - 1 < 18446744073709551616 := by omega
  rw [BitVec.toNat_and, ofInt_u64 _ hm, BitVec.toNat_ofInt, Nat.and_two_pow_sub_one_eq_mod, IntKind.wrap_i64, IntKind.wrap_i64]
  have : (((x : Int) + 9223372036854775808) % 18446744073709551616 - 9223372036854775808) % ((2 ^ 64 : Nat) : Int) = (x : Int) := by omega
  rw [this, Int.toNat_natCast]
  have := Nat.mod_lt x y0
  generalize x % 2 ^ d = z at *
  generalize 2 ^ d = y at *
  omega
theorem limb_low (y d : Nat) (hd : d ≤ 15) : limbN y 0 % 2 ^ d = y % 2 ^ d := by
  unfold limbN
  rw [Nat.mul_zero, Nat.pow_zero, Nat.div_one, B64]
  exact Nat.mod_mod_of_dvd _ (Nat.pow_dvd_pow 2 (by omega))
theorem field_exp (y d : Nat) (hd : d ≤ 15) : Go.bits .and .i64 (IntKind.i64.wrap (limb y 0)) (IntKind.i64.wrap (IntKind.i64.wrap (2 ^ d) - 1)) = ((y % 2 ^ d : Nat) : Int) := by
  unfold limb
  rw [exp_bits _ d (limbN_lt y 0) hd, limb_low y d hd]
theorem lt_top_bits (b : Nat) (h : b < 2 ^ (64 * 2)) : b < top6 := Nat.lt_of_lt_of_le h (by unfold top6; exact pw_mono 2 6 (by decide))

set_option maxHeartbeats 6400000 in
set_option maxRecDepth 100000 in
theorem kindFields_any (f b : Nat) (w : World) (hf : f < 4) (hb : b < 2 ^ (64 * 2)) (hT : Tab w) :
    Calls Tryd.prog 118 #[.int .u8 f, BV b] w fun e w' => e = .returned (.tuple #[.bool (b.testBit (wF f - 1)), .int .i64 (expN f b : Nat), W (b % 2 ^ (pF f - 1))]) ∧ Below w.heap.size w w' := by
  obtain ⟨p1, p2, n1, n2, np1, np2⟩ := formB f hf
  have cP := fun w => shapePrecision_any f w (by omega)
  have cW := fun w => shapeWidth_any f w (by omega)
  unfold expN
  generalize pF f = p at *
  generalize wF f = n at *
  obtain ⟨q, hq⟩ : ∃ q, p - 1 = q := ⟨_, rfl⟩
  obtain ⟨r, hr⟩ : ∃ r, n - 1 = r := ⟨_, rfl⟩
  obtain ⟨d, hd⟩ : ∃ d, n - p = d := ⟨_, rfl⟩
  rw [hq, hr, hd]
  have HT := Lib.hid hT
  have HB := Lib.hid hb
  clear hT hb
  have vp : IntKind.i64.wrap ((p : Int) - 1) = (q : Int) := by rw [show (p : Int) - 1 = (q : Int) by omega]; exact IntWalk.i64_in _ (by omega)
  have vn : IntKind.i64.wrap ((n : Int) - 1) = (r : Int) := by rw [show (n : Int) - 1 = (r : Int) by omega]; exact IntWalk.i64_in _ (by omega)
  have vd : IntKind.i64.wrap ((n : Int) - (p : Int)) = (d : Int) := by rw [show (n : Int) - (p : Int) = (d : Int) by omega]; exact IntWalk.i64_in _ (by omega)
  have ep : ((p : Int) - 1).toNat = q := by omega
  have q4 : (q : Int) ≤ 384 := by omega
  have d15 : d ≤ 15 := by omega
  go_enter Tryd.func118, Tryd.ntmps118
  go_wp2_with fail
  refine (wideOfBits_any b _ HB.out).mono ?_
  rintro e w1 ⟨rfl, hb1⟩
  go_wp2_with fail
  refine (cP _).mono ?_
  rintro e w2 ⟨rfl, hb2⟩
  go_wp2_with fail
  refine (cW _).mono ?_
  rintro e w3 ⟨rfl, hb3⟩
  have b6 : Blk 35 w3 (w.heap.size + 1) (limbs 0) := by
    have h1 : Blk 35 w1 (w.heap.size + 1) (limbs 0) := by
      rw [limbs_zero]
      have := (Blk.new (T := 35) (w.alloc (.cells #[.int .u64 (limb b 1), .int .u64 (limb b 0)] 26)) #[.int .u64 0, .int .u64 0, .int .u64 0, .int .u64 0, .int .u64 0, .int .u64 0]).below hb1 (by simp)
      simpa using this
    exact ((h1.alloc _).below hb2 (by have := h1.lt; simp; omega)).below hb3 (by have := h1.lt; have := hb2.size; simp at this; omega)
  have b7 : Blk 35 w3 w1.heap.size (limbs b) := ((Blk.new w1 (limbs b)).below hb2 (by simp)).below hb3 (by have := hb2.size; simp at this; omega)
  have hbw : Below w.heap.size w w3 := by
    have hs1 := hb1.size
    have hs2 := hb2.size
    simp at hs1 hs2
    exact ((((((Below.refl _ _).alloc (Nat.le_refl _) _).alloc (by simp) _).trans (hb1.mono (by simp <;> omega))).alloc (by omega) _).trans (hb2.mono (by simp; omega))).trans (hb3.mono (by omega))
  have hT3 := Lib.hid (HT.out.below hbw)
  obtain ⟨f0, f1, f2, f3, f4, f5⟩ := b6.six_free
  obtain ⟨d0, d1, d2, d3, d4, d5⟩ := b6.six
  obtain ⟨c0, c1, c2, c3, c4, c5⟩ := b7.six
  go_wp2_with fail
  have ne : w1.heap.size ≠ w.heap.size + 1 := by have := hb1.size; simp at this; omega
  clear hq hr hd p1 p2 n1 n2 np1 np2 hf cP cW
  go_region_held3 (fun w' => w'.cell? ⟨w1.heap.size, 0, none⟩ = some (.int .u64 (limb b 0)) ∧ w'.cell? ⟨w1.heap.size, 1, none⟩ = some (.int .u64 (limb b 1)) ∧ w'.cell? ⟨w1.heap.size, 2, none⟩ = some (.int .u64 (limb b 2)) ∧ w'.cell? ⟨w1.heap.size, 3, none⟩ = some (.int .u64 (limb b 3)) ∧ w'.cell? ⟨w1.heap.size, 4, none⟩ = some (.int .u64 (limb b 4)) ∧ w'.cell? ⟨w1.heap.size, 5, none⟩ = some (.int .u64 (limb b 5))) (first | with_reducible exact ⟨k0, k1, k2, k3, k4, k5⟩ | with_reducible exact ⟨g0, g1, g2, g3, g4, g5⟩ | exact (B7.put6_other (b % 2 ^ q) ne).six | exact ⟨c0, c1, c2, c3, c4, c5⟩)
    (first
    | (go_at_call 123; refine (wideMask_n (q : Int) _ q4).mono ?_; rw [Int.toNat_natCast]; rintro e w4 ⟨rfl, hb4⟩; obtain ⟨g0, g1, g2, g3, g4, g5⟩ := (b7.drew.below hb4 b7.lt).six)
    | (go_at_call 122; refine (wideCut_n b q _).mono ?_; rintro e w5 ⟨rfl, hb5⟩; have B7 := (b7.drew.below hb4 b7.lt).below hb5 (b7.drew.below hb4 b7.lt).lt; have B6 := (b6.drew.below hb4 b6.lt).below hb5 (b6.drew.below hb4 b6.lt).lt; obtain ⟨k0, k1, k2, k3, k4, k5⟩ := B7.six; obtain ⟨m0, m1, m2, m3, m4, m5⟩ := B6.six; obtain ⟨n0, n1, n2, n3, n4, n5⟩ := B6.six_free))
  all_goals
    have u7 := B7.put6_other (b % 2 ^ q) ne
    have u6 := B6.put6 rfl (b % 2 ^ q)
    have hs3 : w.heap.size + 1 < w3.drew.heap.size := b6.lt
    have hu := below_put6 ((hbw.drew.trans (hb4.mono (by omega))).trans (hb5.mono (by have := hb4.size; omega))) (by omega : w.heap.size ≤ w.heap.size + 1) (b % 2 ^ q)
    have hs7 := u7.lt
    clear B7 B6 hb1 hb2 hb3 hb4 hb5 b6 b7 hbw hs3 hT3
    change Exit.then _ _ Exit.normal _ (put6 w5 (w.heap.size + 1) (b % 2 ^ q))
    generalize put6 w5 (w.heap.size + 1) (b % 2 ^ q) = u at *
    clear f0 f1 f2 f3 f4 f5 d0 d1 d2 d3 d4 d5 c0 c1 c2 c3 c4 c5 g0 g1 g2 g3 g4 g5 k0 k1 k2 k3 k4 k5 m0 m1 m2 m3 m4 m5 n0 n1 n2 n3 n4 n5
    have U := Lib.hid (HT.out.below hu)
    obtain ⟨c0, c1, c2, c3, c4, c5⟩ := u7.six
    go_wp2_with fail
    refine (wideRight_n b (q : Int) _ (lt_top_bits b HB.out) U.out).mono ?_
    rw [Int.toNat_natCast]
    rintro e w6 ⟨rfl, hb6⟩
    have x7 := (u7.below hb6 u7.lt).alloc (.cells (limbs (b / 2 ^ q)) 35 (0, 0))
    have x6 := (u6.below hb6 u6.lt).alloc (.cells (limbs (b / 2 ^ q)) 35 (0, 0))
    have x10 := Blk.new (T := 35) w6 (limbs (b / 2 ^ q))
    have hx := (hu.trans (hb6.mono (by have := u6.lt; omega))).alloc (by have := u6.lt; have := hb6.size; omega) (.cells (limbs (b / 2 ^ q)) 35 (0, 0))
    clear c0 c1 c2 c3 c4 c5
    have n67 : w6.heap.size ≠ w.heap.size + 1 := by have := (u6.below hb6 u6.lt).lt; omega
    clear u7 u6 hb6 hu
    go_wp2_with fail
    change Code.wp _ _ _ _ (w6.alloc (.cells (limbs (b / 2 ^ q)) 35 (0, 0)))
    generalize w6.alloc (.cells (limbs (b / 2 ^ q)) 35 (0, 0)) = v at *
    obtain ⟨c0, c1, c2, c3, c4, c5⟩ := x7.six
    obtain ⟨d0, d1, d2, d3, d4, d5⟩ := x6.six
    have e0 := x10.cell 0 (limbs_get _ 0 (by decide))
    have du : IntKind.u64.wrap (d : Int) = (d : Int) := by rw [IntKind.wrap_u64]; omega
    have dt : min (d : Int).toNat 64 = d := by omega
    clear ne n67 vp ep q4 hs7
    go_region_held3 (fun w' => w'.cell? ⟨w1.heap.size, 0, none⟩ = some (.int .u64 (limb b 0)) ∧ w'.cell? ⟨w1.heap.size, 1, none⟩ = some (.int .u64 (limb b 1)) ∧ w'.cell? ⟨w1.heap.size, 2, none⟩ = some (.int .u64 (limb b 2)) ∧ w'.cell? ⟨w1.heap.size, 3, none⟩ = some (.int .u64 (limb b 3)) ∧ w'.cell? ⟨w1.heap.size, 4, none⟩ = some (.int .u64 (limb b 4)) ∧ w'.cell? ⟨w1.heap.size, 5, none⟩ = some (.int .u64 (limb b 5)) ∧ w'.cell? ⟨w6.heap.size, 0, none⟩ = some (.int .u64 (limb (b / 2 ^ q) 0)) ∧ w'.cell? ⟨w.heap.size + 1, 0, none⟩ = some (.int .u64 (limb (b % 2 ^ q) 0)) ∧ w'.cell? ⟨w.heap.size + 1, 1, none⟩ = some (.int .u64 (limb (b % 2 ^ q) 1)) ∧ w'.cell? ⟨w.heap.size + 1, 2, none⟩ = some (.int .u64 (limb (b % 2 ^ q) 2)) ∧ w'.cell? ⟨w.heap.size + 1, 3, none⟩ = some (.int .u64 (limb (b % 2 ^ q) 3)) ∧ w'.cell? ⟨w.heap.size + 1, 4, none⟩ = some (.int .u64 (limb (b % 2 ^ q) 4)) ∧ w'.cell? ⟨w.heap.size + 1, 5, none⟩ = some (.int .u64 (limb (b % 2 ^ q) 5)))
      (first | with_reducible exact ⟨g0, g1, g2, g3, g4, g5, h0, k0, k1, k2, k3, k4, k5⟩ | (rw [hk]; with_reducible exact ⟨g0, g1, g2, g3, g4, g5, h0, k0, k1, k2, k3, k4, k5⟩) | exact ⟨c0, c1, c2, c3, c4, c5, e0, d0, d1, d2, d3, d4, d5⟩)
      (first
      | (go_at_call 94; refine (wideBit_any b (r : Int) _).mono ?_; rw [bitI_in b r (lt_top_bits b HB.out)]; rintro e w7 ⟨rfl, hb7⟩; have B7 := x7.drew.below hb7 x7.lt; have B6 := x6.drew.below hb7 x6.lt; have hk := B6.again; unfold put6 at hk; obtain ⟨g0, g1, g2, g3, g4, g5⟩ := B7.six; have h0 := (x10.drew.below hb7 x10.lt).cell 0 (limbs_get _ 0 (by decide)); obtain ⟨k0, k1, k2, k3, k4, k5⟩ := B6.six; obtain ⟨n0, n1, n2, n3, n4, n5⟩ := B6.six_free))
    all_goals
      have hf := hx.drew.trans (hb7.mono (by have := x6.lt; exact Nat.le_of_lt (Nat.lt_of_succ_lt this)))
      have hv := field_exp (b / 2 ^ q) d d15
      have HV := Lib.hid hv
      have HF := Lib.hid hf
      clear hv hf hx hb7 B7 hk x7 x6 x10 c0 c1 c2 c3 c4 c5 d0 d1 d2 d3 d4 d5 e0
      go_wp2_with fail
      exact bodyPost_ret (v := .tuple #[.bool (b.testBit r), .int .i64 (Go.bits .and .i64 (IntKind.i64.wrap (limb (b / 2 ^ q) 0)) (IntKind.i64.wrap (IntKind.i64.wrap (2 ^ d) - 1))), W (b % 2 ^ q)])
        (by simp [results, Tryd.results118, go_sem, k0, k1, k2, k3, k4, k5, limbs]) rfl ⟨by rw [HV.out], HF.out⟩
end Go.Proofs.YtjgonofkklpgaaaDoor
