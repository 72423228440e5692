/- Part 7 of the proof. -/
import Derived.BigQuiet
import Derived.Deep.QuietTactic
import Derived.RegionTactic
import Derived.Deep.RegionHeld3
import Derived.Test.YtgmhmpflmgfcdaaGreatDoorHq5
import Derived.Test.YtgmhmpflmgfcdaaGreatDoorHq6
set_option linter.unusedSimpArgs false
set_option linter.unusedVariables false
set_option linter.unnecessarySimpa false
set_option maxRecDepth 100000
set_option maxHeartbeats 3200000
namespace Go.Proofs.YtgmhmpflmgfcdaaGreatDoor
open Go.RowKit
theorem belowN {B : Nat} {a w : World} (h : Below B a w) (n : Nat) : Below B a (w.drewN n) := h.trans ⟨rfl, rfl, rfl, Nat.le_refl _, fun _ _ => rfl⟩
theorem shapeNumbers_0 (w : World) :
  CR_ 160 #[.int .u8 0] w (.tuple #[.int .i64 (wF 0 : Nat), .int .i64 (pF 0 : Nat), .int .i64 (eF 0 : Nat), .string ⟨nameF 0⟩]) := by
 go_enter Tryz.func160, Tryz.ntmps160
 go_wp2_with fail
 go_quiet (fail)
 go_wp2
 exact bodyPost_ret (by simp [results, Tryz.results160, go_sem] <;> exact ⟨rfl, rfl, rfl, rfl⟩) rfl ⟨rfl, belowN ((Below.refl _ _).alloc (Nat.le_refl _) _) _⟩
theorem shapeNumbers_1 (w : World) :
  CR_ 160 #[.int .u8 1] w (.tuple #[.int .i64 (wF 1 : Nat), .int .i64 (pF 1 : Nat), .int .i64 (eF 1 : Nat), .string ⟨nameF 1⟩]) := by
 go_enter Tryz.func160, Tryz.ntmps160
 go_wp2_with fail
 go_quiet (fail)
 go_wp2
 exact bodyPost_ret (by simp [results, Tryz.results160, go_sem] <;> exact ⟨rfl, rfl, rfl, rfl⟩) rfl ⟨rfl, belowN ((Below.refl _ _).alloc (Nat.le_refl _) _) _⟩
theorem shapeNumbers_2 (w : World) :
  CR_ 160 #[.int .u8 2] w (.tuple #[.int .i64 (wF 2 : Nat), .int .i64 (pF 2 : Nat), .int .i64 (eF 2 : Nat), .string ⟨nameF 2⟩]) := by
 go_enter Tryz.func160, Tryz.ntmps160
 go_wp2_with fail
 go_quiet (fail)
 go_wp2
 exact bodyPost_ret (by simp [results, Tryz.results160, go_sem] <;> exact ⟨rfl, rfl, rfl, rfl⟩) rfl ⟨rfl, belowN ((Below.refl _ _).alloc (Nat.le_refl _) _) _⟩
theorem shapeNumbers_3 (w : World) :
  CR_ 160 #[.int .u8 3] w (.tuple #[.int .i64 (wF 3 : Nat), .int .i64 (pF 3 : Nat), .int .i64 (eF 3 : Nat), .string ⟨nameF 3⟩]) := by
 go_enter Tryz.func160, Tryz.ntmps160
 go_wp2_with fail
 go_quiet (fail)
 go_wp2
 exact bodyPost_ret (by simp [results, Tryz.results160, go_sem] <;> exact ⟨rfl, rfl, rfl, rfl⟩) rfl ⟨rfl, belowN ((Below.refl _ _).alloc (Nat.le_refl _) _) _⟩
theorem shapeNumbers_4 (f : Nat) (w : World) (h : 4 ≤ f) (hf : f < 256) :
  CR_ 160 #[.int .u8 f] w (.tuple #[.int .i64 0, .int .i64 0, .int .i64 0, .string ⟨#[]⟩]) := by
 have h4 : (4 : Int) ≤ (f : Int) := by omega
 have h6 : (f : Int) < 256 := by omega
 go_enter Tryz.func160, Tryz.ntmps160
 go_wp2
 exact bodyPost_ret (by simp [results, Tryz.results160, go_sem]) rfl ⟨rfl, (Below.refl _ _).alloc (Nat.le_refl _) _⟩
theorem shapeNumbers_any (f : Nat) (w : World) (hf : f < 256) :
  CR_ 160 #[.int .u8 f] w (.tuple #[.int .i64 (wF f : Nat), .int .i64 (pF f : Nat), .int .i64 (eF f : Nat), .string ⟨nameF f⟩]) := by
 rcases forms f with rfl | rfl | rfl | rfl | h
 ·exact shapeNumbers_0 w
 ·exact shapeNumbers_1 w
 ·exact shapeNumbers_2 w
 ·exact shapeNumbers_3 w
 ·obtain ⟨e1, e2, e3, e4⟩ := wF_big f h
  rw [e1, e2, e3, e4]
  exact shapeNumbers_4 f w h hf
theorem shapeWidth_any (f : Nat) (w : World) (hf : f < 256) :
  CR_ 177 #[.int .u8 f] w (.int .i64 (wF f : Nat)) := by
 go_enter Tryz.func177, Tryz.ntmps177
 go_wp2_with fail
 refine (shapeNumbers_any f _ hf).mono ?_
 rintro e w' ⟨rfl, hb⟩
 go_wp2
 go_ret
 exact ⟨rfl, hb⟩
theorem shapePrecision_any (f : Nat) (w : World) (hf : f < 256) :
  CR_ 79 #[.int .u8 f] w (.int .i64 (pF f : Nat)) := by
 go_enter Tryz.func79, Tryz.ntmps79
 go_wp2_with fail
 refine (shapeNumbers_any f _ hf).mono ?_
 rintro e w' ⟨rfl, hb⟩
 go_wp2
 go_ret
 exact ⟨rfl, hb⟩
theorem shapeEmax_any (f : Nat) (w : World) (hf : f < 256) :
  CR_ 142 #[.int .u8 f] w (.int .i64 (eF f : Nat)) := by
 go_enter Tryz.func142, Tryz.ntmps142
 go_wp2_with fail
 refine (shapeNumbers_any f _ hf).mono ?_
 rintro e w' ⟨rfl, hb⟩
 go_wp2
 go_ret
 exact ⟨rfl, hb⟩
theorem shapeCheck_any (f : Nat) (w : World) (hf : f < 256) :
  Calls Tryz.prog 154 #[.int .u8 f] w fun e w' => e = .returned (.int .i64 (cond (decide (f < 4)) 0 2)) ∧ w = w' := by
 by_cases h : f < 4
 ·have h4 : ¬ (3 : Int) < (f : Int) := by omega
  rw [decide_eq_true h]
  go_enter Tryz.func154, Tryz.ntmps154
  go_wp2
  go_ret
  exact ⟨rfl, rfl⟩
 ·have h4 : (3 : Int) < (f : Int) := by omega
  rw [decide_eq_false h]
  go_enter Tryz.func154, Tryz.ntmps154
  go_wp2
  go_ret
  exact ⟨rfl, rfl⟩
theorem shapeCheckMode_any (f : Nat) (w : World) (hf : f < 256) :
  Calls Tryz.prog 121 #[.int .u8 f] w fun e w' => e = .returned (.int .i64 (cond (decide (f < 5)) 0 2)) ∧ w = w' := by
 by_cases h : f < 5
 ·have h4 : ¬ (4 : Int) < (f : Int) := by omega
  rw [decide_eq_true h]
  go_enter Tryz.func121, Tryz.ntmps121
  go_wp2
  go_ret
  exact ⟨rfl, rfl⟩
 ·have h4 : (4 : Int) < (f : Int) := by omega
  rw [decide_eq_false h]
  go_enter Tryz.func121, Tryz.ntmps121
  go_wp2
  go_ret
  exact ⟨rfl, rfl⟩
theorem shapeEmin_any (f : Nat) (w : World) (hf : f < 256) :
  CR_ 141 #[.int .u8 f] w (.int .i64 (eminI f)) := by
 unfold eminI
 have he := eF_le f
 have wr : IntKind.i64.wrap (1 - (eF f : Nat)) = 1 - ((eF f : Nat) : Int) := IntWalk.i64_in _ (by omega)
 by_cases h : f < 4
 ·rw [decide_eq_true h]
  go_enter Tryz.func141, Tryz.ntmps141
  go_wp2_with fail
  refine (shapeCheck_any f _ hf).mono ?_
  rw [decide_eq_true h]
  rintro e w' ⟨rfl, rfl⟩
  go_wp2_with fail
  refine (shapeEmax_any f _ hf).mono ?_
  rintro e w' ⟨rfl, hb⟩
  go_wp2
  go_ret
  exact ⟨rfl, hb⟩
 ·rw [decide_eq_false h]
  go_enter Tryz.func141, Tryz.ntmps141
  go_wp2_with fail
  refine (shapeCheck_any f _ hf).mono ?_
  rw [decide_eq_false h]
  rintro e w' ⟨rfl, rfl⟩
  go_wp2
  go_ret
  exact ⟨rfl, Below.refl _ _⟩
theorem hi_zero (b : Nat) (h : b < 2 ^ 128) : (limb b 1 == 0) = decide (b < 2 ^ 64) := by
 unfold limb limbN
 rw [Bool.eq_iff_iff, beq_iff_eq, decide_eq_true_iff]
 rw [show 64 * 1 = 64 from rfl]
 omega
theorem lo_small (b s : Nat) (h : b < 2 ^ 64) (hs : s = 32 ∨ s = 16) : (limb b 0 / 2 ^ s == 0) = decide (b < 2 ^ s) := by
 unfold limb limbN
 rw [Bool.eq_iff_iff, beq_iff_eq, decide_eq_true_iff]
 rcases hs with rfl | rfl <;> omega
theorem shapeWidth_0 (w : World) : CR_ 177 #[.int .u8 0] w (.int .i64 32) := shapeWidth_any 0 w (by decide)
theorem shapeFits_0a (b : Nat) (w : World) (h1 : (limb b 1 == 0) = false) :
  CR_ 92 #[.int .u8 0, BV b] w (.bool false) := by
 go_enter Tryz.func92, Tryz.ntmps92
 go_wp2_with fail
 go_region
 all_goals go_wp2
 all_goals go_ret
 all_goals exact ⟨rfl, belowN ((Below.refl _ _).alloc (Nat.le_refl _) _) _⟩
theorem shapeFits_0b (b : Nat) (w : World) (l : Bool) (h1 : (limb b 1 == 0) = true) (h2 : (limb b 0 / 2 ^ 32 == 0) = l) :
  CR_ 92 #[.int .u8 0, BV b] w (.bool l) := by
 go_enter Tryz.func92, Tryz.ntmps92
 go_wp2_with fail
 have c0 : (w.alloc (.cells #[.int .u64 (limb b 1), .int .u64 (limb b 0)] 27 (0, 0))).cell? ⟨w.heap.size, 0, none⟩ = some (.int .u64 (limb b 1)) := by go_simp
 have c1 : (w.alloc (.cells #[.int .u64 (limb b 1), .int .u64 (limb b 0)] 27 (0, 0))).cell? ⟨w.heap.size, 1, none⟩ = some (.int .u64 (limb b 0)) := by go_simp
 go_region_held3 (fun w' => w'.cell? ⟨w.heap.size, 0, none⟩ = some (.int .u64 (limb b 1)) ∧ w'.cell? ⟨w.heap.size, 1, none⟩ = some (.int .u64 (limb b 0))) (first | exact ⟨c0, c1⟩ | exact ⟨g0, g1⟩)
  (first | (go_at_call 177; refine (shapeWidth_0 _).mono ?_; rintro e w3 ⟨rfl, hb3⟩; have g0 := (hb3.cell (p := ⟨w.heap.size, 0, none⟩) (by simp)).trans c0; have g1 := (hb3.cell (p := ⟨w.heap.size, 1, none⟩) (by simp)).trans c1))
 all_goals
  replace hb3 := (((Below.refl w.heap.size w).alloc (Nat.le_refl _) (.cells #[.int .u64 (limb b 1), .int .u64 (limb b 0)] 27 (0, 0))).drew).trans (hb3.mono (by simp))
  go_wp2
 all_goals go_ret
 all_goals exact ⟨ret_bool (by rw [show min (IntKind.u64.wrap 32).toNat 64 = 32 from by decide]; exact h2), by first | exact hb3 | exact hb3.drew | exact belowN hb3 _⟩
theorem shapeWidth_2 (w : World) : CR_ 177 #[.int .u8 2] w (.int .i64 16) := shapeWidth_any 2 w (by decide)
theorem shapeFits_2a (b : Nat) (w : World) (h1 : (limb b 1 == 0) = false) :
  CR_ 92 #[.int .u8 2, BV b] w (.bool false) := by
 go_enter Tryz.func92, Tryz.ntmps92
 go_wp2_with fail
 go_region
 all_goals go_wp2
 all_goals go_ret
 all_goals exact ⟨rfl, belowN ((Below.refl _ _).alloc (Nat.le_refl _) _) _⟩
theorem shapeFits_2b (b : Nat) (w : World) (l : Bool) (h1 : (limb b 1 == 0) = true) (h2 : (limb b 0 / 2 ^ 16 == 0) = l) :
  CR_ 92 #[.int .u8 2, BV b] w (.bool l) := by
 go_enter Tryz.func92, Tryz.ntmps92
 go_wp2_with fail
 have c0 : (w.alloc (.cells #[.int .u64 (limb b 1), .int .u64 (limb b 0)] 27 (0, 0))).cell? ⟨w.heap.size, 0, none⟩ = some (.int .u64 (limb b 1)) := by go_simp
 have c1 : (w.alloc (.cells #[.int .u64 (limb b 1), .int .u64 (limb b 0)] 27 (0, 0))).cell? ⟨w.heap.size, 1, none⟩ = some (.int .u64 (limb b 0)) := by go_simp
 go_region_held3 (fun w' => w'.cell? ⟨w.heap.size, 0, none⟩ = some (.int .u64 (limb b 1)) ∧ w'.cell? ⟨w.heap.size, 1, none⟩ = some (.int .u64 (limb b 0))) (first | exact ⟨c0, c1⟩ | exact ⟨g0, g1⟩)
  (first | (go_at_call 177; refine (shapeWidth_2 _).mono ?_; rintro e w3 ⟨rfl, hb3⟩; have g0 := (hb3.cell (p := ⟨w.heap.size, 0, none⟩) (by simp)).trans c0; have g1 := (hb3.cell (p := ⟨w.heap.size, 1, none⟩) (by simp)).trans c1))
 all_goals
  replace hb3 := (((Below.refl w.heap.size w).alloc (Nat.le_refl _) (.cells #[.int .u64 (limb b 1), .int .u64 (limb b 0)] 27 (0, 0))).drew).trans (hb3.mono (by simp))
  go_wp2
 all_goals go_ret
 all_goals exact ⟨ret_bool (by rw [show min (IntKind.u64.wrap 16).toNat 64 = 16 from by decide]; exact h2), by first | exact hb3 | exact hb3.drew | exact belowN hb3 _⟩
theorem shapeFits_1 (b : Nat) (w : World) (l : Bool) (h1 : (limb b 1 == 0) = l) :
  CR_ 92 #[.int .u8 1, BV b] w (.bool l) := by
 go_enter Tryz.func92, Tryz.ntmps92
 go_wp2
 go_ret
 exact ⟨rfl, (Below.refl _ _).alloc (Nat.le_refl _) _⟩
theorem shapeFits_3 (b : Nat) (w : World) :
  CR_ 92 #[.int .u8 3, BV b] w (.bool true) := by
 go_enter Tryz.func92, Tryz.ntmps92
 go_wp2
 go_ret
 exact ⟨rfl, (Below.refl _ _).alloc (Nat.le_refl _) _⟩
theorem shapeFits_4 (f b : Nat) (w : World) (h : 4 ≤ f) :
  CR_ 92 #[.int .u8 f, BV b] w (.bool false) := by
 have e0 : ((f : Int) == 0) = false := by simp; omega
 have e1 : ((f : Int) == 1) = false := by simp; omega
 have e2 : ((f : Int) == 2) = false := by simp; omega
 have e3 : ((f : Int) == 3) = false := by simp; omega
 have h4 : (4 : Int) ≤ (f : Int) := by omega
 go_enter Tryz.func92, Tryz.ntmps92
 go_wp2
 go_ret
 exact ⟨rfl, (Below.refl _ _).alloc (Nat.le_refl _) _⟩
theorem shapeFits_any (f b : Nat) (w : World) (hb : b < 2 ^ 128) :
  CR_ 92 #[.int .u8 f, BV b] w (.bool (fitsB f b)) := by
 have h1 := hi_zero b hb
 rcases forms f with rfl | rfl | rfl | rfl | h
 ·by_cases h : b < 2 ^ 64
  ·rw [decide_eq_true h] at h1
   have := shapeFits_0b b w _ h1 (lo_small b 32 h (by omega))
   rw [show fitsB 0 b = decide (b < 2 ^ 32) by simp [fitsB, wF]]
   exact this
  ·rw [decide_eq_false h] at h1
   rw [show fitsB 0 b = false by simp [fitsB, wF]; omega]
   exact shapeFits_0a b w h1
 ·rw [show fitsB 1 b = decide (b < 2 ^ 64) by simp [fitsB, wF]]
  exact shapeFits_1 b w _ h1
 ·by_cases h : b < 2 ^ 64
  ·rw [decide_eq_true h] at h1
   have := shapeFits_2b b w _ h1 (lo_small b 16 h (by omega))
   rw [show fitsB 2 b = decide (b < 2 ^ 16) by simp [fitsB, wF]]
   exact this
  ·rw [decide_eq_false h] at h1
   rw [show fitsB 2 b = false by simp [fitsB, wF]; omega]
   exact shapeFits_2a b w h1
 ·rw [show fitsB 3 b = true by simp [fitsB, wF]; omega]
  exact shapeFits_3 b w
 ·rw [show fitsB f b = false by simp [fitsB]; omega]
  exact shapeFits_4 f b w h
theorem exp_bits (x d : Nat) (hx : x < 18446744073709551616) (hd : d ≤ 15) :
  Go.bits .and .i64 (IntKind.i64.wrap (x : Int)) (IntKind.i64.wrap (IntKind.i64.wrap (2 ^ d) - 1)) = ((x % 2 ^ d : Nat) : Int) := by
 have y1 : 2 ^ d ≤ 2 ^ 15 := Nat.pow_le_pow_right (by decide) hd
 have y0 := Nat.two_pow_pos d
 have e : IntKind.i64.wrap (IntKind.i64.wrap ((2 : Int) ^ d) - 1) = ((2 ^ d - 1 : Nat) : Int) := by
  rw [show (2 : Int) ^ d = ((2 ^ d : Nat) : Int) by simp, IntKind.wrap_i64, IntKind.wrap_i64]
  generalize 2 ^ d = y at *
  omega
 rw [e]
 show IntKind.i64.wrap ((BitVec.ofInt 64 (IntKind.i64.wrap (x : Int)) &&& BitVec.ofInt 64 ((2 ^ d - 1 : Nat) : Int)).toNat : Nat) = _
 have hm : 2 ^ d - 1 < 18446744073709551616 := by omega
 rw [BitVec.toNat_and, ofInt_u64 _ hm, BitVec.toNat_ofInt, Nat.and_two_pow_sub_one_eq_mod, IntKind.wrap_i64, IntKind.wrap_i64]
 have : (((x : Int) + 9223372036854775808) % 18446744073709551616 - 9223372036854775808) % ((2 ^ 64 : Nat) : Int) = (x : Int) := by omega
 rw [this, Int.toNat_natCast]
 have := Nat.mod_lt x y0
 generalize x % 2 ^ d = z at *
 generalize 2 ^ d = y at *
 omega
theorem limb_low (y d : Nat) (hd : d ≤ 15) : limbN y 0 % 2 ^ d = y % 2 ^ d := by
 unfold limbN
 rw [Nat.mul_zero, Nat.pow_zero, Nat.div_one, B64]
 exact Nat.mod_mod_of_dvd _ (Nat.pow_dvd_pow 2 (by omega))
theorem field_exp (y d : Nat) (hd : d ≤ 15) : Go.bits .and .i64 (IntKind.i64.wrap (limb y 0)) (IntKind.i64.wrap (IntKind.i64.wrap (2 ^ d) - 1)) = ((y % 2 ^ d : Nat) : Int) := by
 unfold limb
 rw [exp_bits _ d (limbN_lt y 0) hd, limb_low y d hd]
theorem lt_top_bits (b : Nat) (h : b < 2 ^ (64 * 2)) : b < top6 := Nat.lt_of_lt_of_le h (by unfold top6; exact pw_mono 2 6 (by decide))
set_option maxHeartbeats 6400000 in
theorem kindFields_any (f b : Nat) (w : World) (hf : f < 4) (hb : b < 2 ^ (64 * 2)) (hT : Tab w) :
  CR_ 187 #[.int .u8 f, BV b] w (.tuple #[.bool (b.testBit (wF f - 1)), .int .i64 (expN f b : Nat), W (b % 2 ^ (pF f - 1))]) := by
 obtain ⟨p1, p2, n1, n2, np1, np2⟩ := formB f hf
 have cP := fun w => shapePrecision_any f w (by omega)
 have cW := fun w => shapeWidth_any f w (by omega)
 unfold expN
 generalize pF f = p at *
 generalize wF f = n at *
 obtain ⟨q, hq⟩ : ∃ q, p - 1 = q := ⟨_, rfl⟩
 obtain ⟨r, hr⟩ : ∃ r, n - 1 = r := ⟨_, rfl⟩
 obtain ⟨d, hd⟩ : ∃ d, n - p = d := ⟨_, rfl⟩
 rw [hq, hr, hd]
 have HT := Lib.hid hT
 have HB := Lib.hid hb
 clear hT hb
 have vp : IntKind.i64.wrap ((p : Int) - 1) = (q : Int) := by rw [show (p : Int) - 1 = (q : Int) by omega]; exact IntWalk.i64_in _ (by omega)
 have vn : IntKind.i64.wrap ((n : Int) - 1) = (r : Int) := by rw [show (n : Int) - 1 = (r : Int) by omega]; exact IntWalk.i64_in _ (by omega)
 have vd : IntKind.i64.wrap ((n : Int) - (p : Int)) = (d : Int) := by rw [show (n : Int) - (p : Int) = (d : Int) by omega]; exact IntWalk.i64_in _ (by omega)
 have ep : ((p : Int) - 1).toNat = q := by omega
 have q4 : (q : Int) ≤ 384 := by omega
 have d15 : d ≤ 15 := by omega
 go_enter Tryz.func187, Tryz.ntmps187
 go_wp2_with fail
 refine (wideOfBits_any b _ HB.out).mono ?_
 rintro e w1 ⟨rfl, hb1⟩
 go_wp2_with fail
 refine (cP _).mono ?_
 rintro e w2 ⟨rfl, hb2⟩
 go_wp2_with fail
 refine (cW _).mono ?_
 rintro e w3 ⟨rfl, hb3⟩
 have b6 : Blk 60 w3 (w.heap.size + 1) (limbs 0) := by
  have h1 : Blk 60 w1 (w.heap.size + 1) (limbs 0) := by
   rw [limbs_zero]
   have := (Blk.new (T := 60) (w.alloc (.cells #[.int .u64 (limb b 1), .int .u64 (limb b 0)] 27)) #[.int .u64 0, .int .u64 0, .int .u64 0, .int .u64 0, .int .u64 0, .int .u64 0]).below hb1 (by simp)
   simpa using this
  exact ((h1.alloc _).below hb2 (by have := h1.lt; simp; omega)).below hb3 (by have := h1.lt; have := hb2.size; simp at this; omega)
 have b7 : Blk 60 w3 w1.heap.size (limbs b) := ((Blk.new w1 (limbs b)).below hb2 (by simp)).below hb3 (by have := hb2.size; simp at this; omega)
 have hbw : Below w.heap.size w w3 := by
  have hs1 := hb1.size
  have hs2 := hb2.size
  simp at hs1 hs2
  exact ((((((Below.refl _ _).alloc (Nat.le_refl _) _).alloc (by simp) _).trans (hb1.mono (by simp <;> omega))).alloc (by omega) _).trans (hb2.mono (by simp; omega))).trans (hb3.mono (by omega))
 have hT3 := Lib.hid (HT.out.below hbw)
 obtain ⟨f0, f1, f2, f3, f4, f5⟩ := b6.six_free
 obtain ⟨d0, d1, d2, d3, d4, d5⟩ := b6.six
 obtain ⟨c0, c1, c2, c3, c4, c5⟩ := b7.six
 go_wp2_with fail
 have ne : w1.heap.size ≠ w.heap.size + 1 := by have := hb1.size; simp at this; omega
 clear hq hr hd p1 p2 n1 n2 np1 np2 hf cP cW
 go_region_held3 (fun w' => w'.cell? ⟨w1.heap.size, 0, none⟩ = some (.int .u64 (limb b 0)) ∧ w'.cell? ⟨w1.heap.size, 1, none⟩ = some (.int .u64 (limb b 1)) ∧ w'.cell? ⟨w1.heap.size, 2, none⟩ = some (.int .u64 (limb b 2)) ∧ w'.cell? ⟨w1.heap.size, 3, none⟩ = some (.int .u64 (limb b 3)) ∧ w'.cell? ⟨w1.heap.size, 4, none⟩ = some (.int .u64 (limb b 4)) ∧ w'.cell? ⟨w1.heap.size, 5, none⟩ = some (.int .u64 (limb b 5))) (first | with_reducible exact ⟨k0, k1, k2, k3, k4, k5⟩ | with_reducible exact ⟨g0, g1, g2, g3, g4, g5⟩ | exact (B7.put6_other (b % 2 ^ q) ne).six | exact ⟨c0, c1, c2, c3, c4, c5⟩)
  (first
  | (go_at_call 190; refine (wideMask_n (q : Int) _ q4).mono ?_; rw [Int.toNat_natCast]; rintro e w4 ⟨rfl, hb4⟩; obtain ⟨g0, g1, g2, g3, g4, g5⟩ := (b7.drew.below hb4 b7.lt).six)
  | (go_at_call 189; refine (wideCut_n b q _).mono ?_; rintro e w5 ⟨rfl, hb5⟩; have B7 := (b7.drew.below hb4 b7.lt).below hb5 (b7.drew.below hb4 b7.lt).lt; have B6 := (b6.drew.below hb4 b6.lt).below hb5 (b6.drew.below hb4 b6.lt).lt; obtain ⟨k0, k1, k2, k3, k4, k5⟩ := B7.six; obtain ⟨m0, m1, m2, m3, m4, m5⟩ := B6.six; obtain ⟨n0, n1, n2, n3, n4, n5⟩ := B6.six_free))
 all_goals
  have u7 := B7.put6_other (b % 2 ^ q) ne
  have u6 := B6.put6 rfl (b % 2 ^ q)
  have hs3 : w.heap.size + 1 < w3.drew.heap.size := b6.lt
  have hu := below_put6 ((hbw.drew.trans (hb4.mono (by omega))).trans (hb5.mono (by have := hb4.size; omega))) (by omega : w.heap.size ≤ w.heap.size + 1) (b % 2 ^ q)
  have hs7 := u7.lt
  clear B7 B6 hb1 hb2 hb3 hb4 hb5 b6 b7 hbw hs3 hT3
  change Exit.then _ _ Exit.normal _ (put6 w5 (w.heap.size + 1) (b % 2 ^ q))
  generalize put6 w5 (w.heap.size + 1) (b % 2 ^ q) = u at *
  clear f0 f1 f2 f3 f4 f5 d0 d1 d2 d3 d4 d5 c0 c1 c2 c3 c4 c5 g0 g1 g2 g3 g4 g5 k0 k1 k2 k3 k4 k5 m0 m1 m2 m3 m4 m5 n0 n1 n2 n3 n4 n5
  have U := Lib.hid (HT.out.below hu)
  obtain ⟨c0, c1, c2, c3, c4, c5⟩ := u7.six
  go_wp2_with fail
  refine (wideRight_n b (q : Int) _ (lt_top_bits b HB.out) U.out).mono ?_
  rw [Int.toNat_natCast]
  rintro e w6 ⟨rfl, hb6⟩
  have x7 := (u7.below hb6 u7.lt).alloc (.cells (limbs (b / 2 ^ q)) 60 (0, 0))
  have x6 := (u6.below hb6 u6.lt).alloc (.cells (limbs (b / 2 ^ q)) 60 (0, 0))
  have x10 := Blk.new (T := 60) w6 (limbs (b / 2 ^ q))
  have hx := (hu.trans (hb6.mono (by have := u6.lt; omega))).alloc (by have := u6.lt; have := hb6.size; omega) (.cells (limbs (b / 2 ^ q)) 60 (0, 0))
  clear c0 c1 c2 c3 c4 c5
  have n67 : w6.heap.size ≠ w.heap.size + 1 := by have := (u6.below hb6 u6.lt).lt; omega
  clear u7 u6 hb6 hu
  go_wp2_with fail
  change Code.wp _ _ _ _ (w6.alloc (.cells (limbs (b / 2 ^ q)) 60 (0, 0)))
  generalize w6.alloc (.cells (limbs (b / 2 ^ q)) 60 (0, 0)) = v at *
  obtain ⟨c0, c1, c2, c3, c4, c5⟩ := x7.six
  obtain ⟨d0, d1, d2, d3, d4, d5⟩ := x6.six
  have e0 := x10.cell 0 (limbs_get _ 0 (by decide))
  have du : IntKind.u64.wrap (d : Int) = (d : Int) := by rw [IntKind.wrap_u64]; omega
  have dt : min (d : Int).toNat 64 = d := by omega
  clear ne n67 vp ep q4 hs7
  go_region_held3 (fun w' => w'.cell? ⟨w1.heap.size, 0, none⟩ = some (.int .u64 (limb b 0)) ∧ w'.cell? ⟨w1.heap.size, 1, none⟩ = some (.int .u64 (limb b 1)) ∧ w'.cell? ⟨w1.heap.size, 2, none⟩ = some (.int .u64 (limb b 2)) ∧ w'.cell? ⟨w1.heap.size, 3, none⟩ = some (.int .u64 (limb b 3)) ∧ w'.cell? ⟨w1.heap.size, 4, none⟩ = some (.int .u64 (limb b 4)) ∧ w'.cell? ⟨w1.heap.size, 5, none⟩ = some (.int .u64 (limb b 5)) ∧ w'.cell? ⟨w6.heap.size, 0, none⟩ = some (.int .u64 (limb (b / 2 ^ q) 0)) ∧ w'.cell? ⟨w.heap.size + 1, 0, none⟩ = some (.int .u64 (limb (b % 2 ^ q) 0)) ∧ w'.cell? ⟨w.heap.size + 1, 1, none⟩ = some (.int .u64 (limb (b % 2 ^ q) 1)) ∧ w'.cell? ⟨w.heap.size + 1, 2, none⟩ = some (.int .u64 (limb (b % 2 ^ q) 2)) ∧ w'.cell? ⟨w.heap.size + 1, 3, none⟩ = some (.int .u64 (limb (b % 2 ^ q) 3)) ∧ w'.cell? ⟨w.heap.size + 1, 4, none⟩ = some (.int .u64 (limb (b % 2 ^ q) 4)) ∧ w'.cell? ⟨w.heap.size + 1, 5, none⟩ = some (.int .u64 (limb (b % 2 ^ q) 5)))
   (first | with_reducible exact ⟨g0, g1, g2, g3, g4, g5, h0, k0, k1, k2, k3, k4, k5⟩ | (rw [hk]; with_reducible exact ⟨g0, g1, g2, g3, g4, g5, h0, k0, k1, k2, k3, k4, k5⟩) | exact ⟨c0, c1, c2, c3, c4, c5, e0, d0, d1, d2, d3, d4, d5⟩)
   (first
   | (go_at_call 188; refine (wideBit_any b (r : Int) _).mono ?_; rw [bitI_in b r (lt_top_bits b HB.out)]; rintro e w7 ⟨rfl, hb7⟩; have B7 := x7.drew.below hb7 x7.lt; have B6 := x6.drew.below hb7 x6.lt; have hk := B6.again; unfold put6 at hk; obtain ⟨g0, g1, g2, g3, g4, g5⟩ := B7.six; have h0 := (x10.drew.below hb7 x10.lt).cell 0 (limbs_get _ 0 (by decide)); obtain ⟨k0, k1, k2, k3, k4, k5⟩ := B6.six; obtain ⟨n0, n1, n2, n3, n4, n5⟩ := B6.six_free))
  all_goals
   have hf := hx.drew.trans (hb7.mono (by have := x6.lt; exact Nat.le_of_lt (Nat.lt_of_succ_lt this)))
   have hv := field_exp (b / 2 ^ q) d d15
   have HV := Lib.hid hv
   have HF := Lib.hid hf
   clear hv hf hx hb7 B7 hk x7 x6 x10 c0 c1 c2 c3 c4 c5 d0 d1 d2 d3 d4 d5 e0
   go_wp2_with fail
   exact bodyPost_ret (v := .tuple #[.bool (b.testBit r), .int .i64 (Go.bits .and .i64 (IntKind.i64.wrap (limb (b / 2 ^ q) 0)) (IntKind.i64.wrap (IntKind.i64.wrap (2 ^ d) - 1))), W (b % 2 ^ q)])
    (by simp [results, Tryz.results187, go_sem, k0, k1, k2, k3, k4, k5, limbs]) rfl ⟨by rw [HV.out], HF.out⟩
theorem limbN_addpow (t i s j : Nat) (ht : t < 2 ^ (64 * i + s)) (hs : s < 64) :
  limbN (t + 2 ^ (64 * i + s)) j = if j = i then limbN t i + 2 ^ s else limbN t j := by
 have hp : 2 ^ (64 * i + s) = 2 ^ s * 2 ^ (64 * i) := by rw [Nat.pow_add, Nat.mul_comm]
 have h64 : 2 ^ s < 18446744073709551616 := by rw [B64]; exact Nat.pow_lt_pow_right (by decide) hs
 rcases Nat.lt_trichotomy j i with h | h | h
 ·rw [if_neg (by omega)]
  unfold limbN
  rw [hp, show 64 * i = 64 * j + (64 + 64 * (i - j - 1)) by omega, Nat.pow_add, Nat.pow_add 2 64, Nat.mul_left_comm, Nat.add_mul_div_left _ _ (pw_pos j), ← B64, Nat.mul_left_comm, Nat.add_mul_mod_self_left]
 ·subst h
  rw [if_pos rfl]
  unfold limbN
  have hq : t / 2 ^ (64 * j) < 2 ^ s := by rw [Nat.div_lt_iff_lt_mul (pw_pos j), ← hp]; exact ht
  have hs2 : 2 ^ s + 2 ^ s ≤ 18446744073709551616 := by rw [← Nat.two_mul, Nat.mul_comm, ← Nat.pow_succ, B64]; exact Nat.pow_le_pow_right (by decide) hs
  rw [hp, Nat.mul_comm, Nat.add_mul_div_left _ _ (pw_pos j), Nat.mod_eq_of_lt (by omega : t / 2 ^ (64 * j) < _), Nat.mod_eq_of_lt (by omega)]
 ·rw [if_neg (by omega)]
  have big : ∀ y, y < 2 ^ (64 * j) → limbN y j = 0 := fun y hy => by unfold limbN; rw [Nat.div_eq_of_lt hy]
  have hle : 2 ^ (64 * i + s) + 2 ^ (64 * i + s) ≤ 2 ^ (64 * j) := by
   rw [← Nat.two_mul, Nat.mul_comm, ← Nat.pow_succ]; exact Nat.pow_le_pow_right (by decide) (by omega)
  rw [big _ (by omega), big _ (by omega)]
theorem bits_or_top (x s : Nat) (hx : x < 2 ^ s) (hs : s < 64) : Go.bits .or .u64 (x : Int) (IntKind.u64.wrap (2 ^ s)) = ((x + 2 ^ s : Nat) : Int) := by
 have h64 : 2 ^ s < 18446744073709551616 := by rw [B64]; exact Nat.pow_lt_pow_right (by decide) hs
 rw [show (2 : Int) ^ s = ((2 ^ s : Nat) : Int) by simp, show IntKind.u64.wrap ((2 ^ s : Nat) : Int) = ((2 ^ s : Nat) : Int) by rw [IntKind.wrap_u64]; omega, u64_or_nat _ _ (by omega) h64]
 congr 1
 have := Nat.two_pow_add_eq_or_of_lt hx 1
 rw [Nat.mul_one] at this
 rw [Nat.or_comm, ← this, Nat.add_comm]
theorem limbs_top (t i s : Nat) (ht : t < 2 ^ (64 * i + s)) (hs : s < 64) (hi : i < 6) :
  (limbs t).setIfInBounds i (.int .u64 (Go.bits .or .u64 (limb t i) (IntKind.u64.wrap (2 ^ s)))) = limbs (t + 2 ^ (64 * i + s)) := by
 have hx : limbN t i < 2 ^ s := by
  unfold limbN
  refine Nat.lt_of_le_of_lt (Nat.mod_le _ _) ?_
  rw [Nat.div_lt_iff_lt_mul (pw_pos i), ← Nat.pow_add, Nat.add_comm]; exact ht
 have e : Go.bits .or .u64 (limb t i) (IntKind.u64.wrap (2 ^ s)) = ((limbN t i + 2 ^ s : Nat) : Int) := bits_or_top _ s hx hs
 rw [e]
 apply Array.ext_getElem?
 intro j
 by_cases hj : j < 6
 ·rw [limbs_get _ j hj, Array.getElem?_setIfInBounds]
  unfold limb
  rw [limbN_addpow t i s j ht hs]
  by_cases h : i = j
  ·subst h
   rw [if_pos rfl, if_pos (by rw [limbs_size]; exact hi), if_pos rfl]
  ·rw [if_neg h, if_neg (by omega)]
   exact limbs_get t j hj
 ·rw [Array.getElem?_eq_none (by rw [Array.size_setIfInBounds, limbs_size]; omega), Array.getElem?_eq_none (by rw [limbs_size]; omega)]
theorem two_pos (n : Nat) : 0 < 2 ^ n := Nat.two_pow_pos n
def gridN (m : Nat) (neg : Bool) (sig : Nat) (exp : Int) (more : Bool) (at_ : Int) : Nat × Bool :=
 if at_ ≤ exp then (sig * 2 ^ (exp - at_).toNat, !more)
 else
  (sig / 2 ^ (at_ - exp).toNat + cond (upB m neg (decide (sig / 2 ^ (at_ - exp).toNat % 2 = 1)) (cond (more && decide (halfN sig (at_ - exp).toNat = 0)) 1 (halfN sig (at_ - exp).toNat)) (decide (sig % 2 ^ (at_ - exp).toNat = 0) && !more)) 1 0,
   decide (sig % 2 ^ (at_ - exp).toNat = 0) && !more)
def signN (f : Nat) (neg : Bool) : Nat := cond neg (2 ^ (wF f - 1)) 0
def zeroN (f : Nat) (neg : Bool) : Nat := cond (decide (f < 4)) (signN f neg) 0
def infN (f : Nat) (neg : Bool) : Nat := cond (decide (f < 4)) ((2 * eF f + 1) * 2 ^ (pF f - 1) + signN f neg) 0
def nanN (f : Nat) : Nat := cond (decide (f < 4)) ((4 * eF f + 3) * 2 ^ (pF f - 2)) 0
def greatN (f : Nat) (neg : Bool) : Nat := cond (decide (f < 4)) ((2 * eF f + 1) * 2 ^ (pF f - 1) - 1 + signN f neg) 0
def oneN (f : Nat) (neg : Bool) : Nat := cond (decide (f < 4)) (eF f * 2 ^ (pF f - 1) + signN f neg) 0
def overB (m : Nat) (neg : Bool) : Bool := decide (m = 1) || (decide (m = 2) && !neg) || (decide (m = 3) && neg)
def overN (f m : Nat) (neg : Bool) : Nat := cond (overB m neg) (greatN f neg) (infN f neg)
def atN (f : Nat) (top : Int) : Int := max top (eminI f) - pF f + 1
def tinyB (f m : Nat) (neg : Bool) (sig : Nat) (exp : Int) (more : Bool) (top : Int) : Bool :=
 if top = eminI f - 1 then decide (lenN (gridN m neg sig exp more (top - pF f + 1)).1 ≤ pF f) else decide (top < eminI f)
def encN (f : Nat) (neg : Bool) (c : Nat) (q : Int) : Nat := (q - eminI f + pF f - 1).toNat * 2 ^ (pF f - 1) + c + signN f neg
def packB (f m : Nat) (neg : Bool) (sig : Nat) (exp : Int) (more : Bool) : Nat × Nat :=
 if (eF f : Int) < lenN sig - 1 + exp then (overN f m neg, 5)
 else if (eF f : Int) < lenN (gridN m neg sig exp more (atN f (lenN sig - 1 + exp))).1 - 1 + atN f (lenN sig - 1 + exp) then (overN f m neg, 5)
 else (encN f neg (gridN m neg sig exp more (atN f (lenN sig - 1 + exp))).1 (atN f (lenN sig - 1 + exp)),
  cond (gridN m neg sig exp more (atN f (lenN sig - 1 + exp))).2 0 (cond (tinyB f m neg sig exp more (lenN sig - 1 + exp)) 3 1))
def packOk (f m : Nat) (sig : Nat) (exp : Int) (more : Bool) : Bool := decide (f < 4) && decide (m < 5) && decide (-1048576 ≤ exp) && decide (exp ≤ 1048576) && !(more && decide (lenN sig < pF f + 2))
def packN (f m : Nat) (neg : Bool) (sig : Nat) (exp : Int) (more : Bool) : Nat × Nat × Int :=
 if packOk f m sig exp more = true then (if sig = 0 then (zeroN f neg, 0, 0) else ((packB f m neg sig exp more).1, (packB f m neg sig exp more).2, 0)) else (0, 0, 2)
theorem bit_iff (a n : Nat) : a.testBit n = true ↔ 2 ^ n ≤ a % 2 ^ (n + 1) := by
 rw [Nat.testBit_eq_decide_div_mod_eq, decide_eq_true_iff, Nat.pow_succ, Nat.mod_mul]
 have h := Nat.mod_lt a (two_pos n)
 have : a / 2 ^ n % 2 = 0 ∨ a / 2 ^ n % 2 = 1 := by omega
 rcases this with e | e
 ·rw [e, Nat.mul_zero]; omega
 ·rw [e, Nat.mul_one]; omega
theorem mod_split (a n : Nat) : a % 2 ^ (n + 1) = a % 2 ^ n + 2 ^ n * (a / 2 ^ n % 2) := by rw [Nat.pow_succ, Nat.mod_mul]
theorem halfN_pos (a n : Nat) : halfN a (n + 1) = if a % 2 ^ (n + 1) < 2 ^ n then -1 else if a % 2 ^ (n + 1) = 2 ^ n then 0 else 1 := by
 unfold halfN
 rw [if_neg (by omega), Nat.add_sub_cancel]
 have hs := mod_split a n
 have hl := Nat.mod_lt a (two_pos n)
 by_cases h : a.testBit n = true
 ·have hb := (bit_iff a n).1 h
  rw [if_pos h]
  have : a / 2 ^ n % 2 = 0 ∨ a / 2 ^ n % 2 = 1 := by omega
  rcases this with e | e
  ·rw [e, Nat.mul_zero] at hs; omega
  ·rw [e, Nat.mul_one] at hs
   rw [if_neg (by omega : ¬ a % 2 ^ (n + 1) < 2 ^ n)]
   by_cases hz : a % 2 ^ n = 0
   ·rw [if_pos hz, if_pos (by omega)]
   ·rw [if_neg hz, if_neg (by omega)]
 ·have hb : ¬ 2 ^ n ≤ a % 2 ^ (n + 1) := fun x => h ((bit_iff a n).2 x)
  rw [if_neg h, if_pos (by omega)]
structure Finer (s : Nat) (e : Int) (mo : Bool) (s' : Nat) (e' : Int) (mo' : Bool) : Prop where
 le : e' ≤ e
 sig : s = s' / 2 ^ (e - e').toNat
 more : mo = (mo' || !decide (s' % 2 ^ (e - e').toNat = 0))
theorem div_more (s' d n : Nat) : s' / 2 ^ d / 2 ^ n = s' / 2 ^ (d + n) := by rw [Nat.div_div_eq_div_mul, ← Nat.pow_add]
theorem mod_more (s' d n : Nat) : s' % 2 ^ (d + n) = s' % 2 ^ d + 2 ^ d * (s' / 2 ^ d % 2 ^ n) := by rw [Nat.pow_add, Nat.mod_mul]
theorem half_more (s' d n : Nat) (hn : 1 ≤ n) (mo' : Bool) :
  (cond ((mo' || !decide (s' % 2 ^ d = 0)) && decide (halfN (s' / 2 ^ d) n = 0)) 1 (halfN (s' / 2 ^ d) n) : Int) = cond (mo' && decide (halfN s' (d + n) = 0)) 1 (halfN s' (d + n)) := by
 obtain ⟨k, rfl⟩ : ∃ k, n = k + 1 := ⟨n - 1, by omega⟩
 rw [← Nat.add_assoc, halfN_pos, halfN_pos]
 have hm := mod_more s' d (k + 1)
 rw [← Nat.add_assoc] at hm
 have hl := Nat.mod_lt s' (two_pos d)
 have hp : 2 ^ (d + k) = 2 ^ d * 2 ^ k := Nat.pow_add _ _ _
 generalize s' / 2 ^ d % 2 ^ (k + 1) = x at *
 generalize s' % 2 ^ (d + k + 1) = y at *
 generalize s' % 2 ^ d = r at *
 rw [hp]
 clear hp
 have h1 : x < 2 ^ k → y < 2 ^ d * 2 ^ k := fun h => by
  have : 2 ^ d * (x + 1) ≤ 2 ^ d * 2 ^ k := Nat.mul_le_mul_left _ h
  rw [Nat.mul_add] at this; omega
 have h2 : 2 ^ k < x → 2 ^ d * 2 ^ k < y := fun h => by
  have : 2 ^ d * (2 ^ k + 1) ≤ 2 ^ d * x := Nat.mul_le_mul_left _ h
  rw [Nat.mul_add] at this; omega
 rcases Nat.lt_trichotomy x (2 ^ k) with h | h | h
 ·rw [if_pos h, if_pos (h1 h)]; cases mo' <;> simp
 ·have hy : y = r + 2 ^ d * 2 ^ k := by rw [hm, h]
  rw [if_neg (by omega), if_pos h, if_neg (by omega)]
  by_cases hr : r = 0
  ·rw [if_pos (by omega)]; simp [hr]
  ·rw [if_neg (by omega)]; simp [hr]
 ·have := h2 h
  rw [if_neg (by omega), if_neg (by omega), if_neg (by omega), if_neg (by omega)]; cases mo' <;> simp
theorem exact_more (s' d n : Nat) (mo' : Bool) :
  (decide (s' / 2 ^ d % 2 ^ n = 0) && !(mo' || !decide (s' % 2 ^ d = 0))) = (decide (s' % 2 ^ (d + n) = 0) && !mo') := by
 have hm := mod_more s' d n
 have hd := two_pos d
 rw [Bool.eq_iff_iff]
 simp only [Bool.and_eq_true, decide_eq_true_iff, Bool.not_eq_true', Bool.or_eq_false_iff, Bool.not_eq_false']
 rw [hm]
 constructor
 ·rintro ⟨h1, h2, h3⟩; rw [h1, h3]; exact ⟨by simp, h2⟩
 ·rintro ⟨h1, h2⟩
  have h4 : s' % 2 ^ d = 0 := by omega
  have h5 : 2 ^ d * (s' / 2 ^ d % 2 ^ n) = 0 := by omega
  exact ⟨by rcases Nat.mul_eq_zero.1 h5 with h | h <;> omega, h2, h4⟩
theorem grid_finer {s : Nat} {e : Int} {mo : Bool} {s' : Nat} {e' : Int} {mo' : Bool} (h : Finer s e mo s' e' mo') (m : Nat) (neg : Bool) (at_ : Int) (ha : e < at_) :
  gridN m neg s e mo at_ = gridN m neg s' e' mo' at_ := by
 obtain ⟨hle, rfl, rfl⟩ := h
 obtain ⟨d, hd⟩ : ∃ d, (e - e').toNat = d := ⟨_, rfl⟩
 obtain ⟨n, hn⟩ : ∃ n, (at_ - e).toNat = n := ⟨_, rfl⟩
 have hn' : (at_ - e').toNat = d + n := by omega
 unfold gridN
 rw [if_neg (by omega), if_neg (by omega), hd, hn, hn', half_more s' d n (by omega), exact_more, div_more]
theorem grid_same {s : Nat} {e : Int} {s' : Nat} {e' : Int} (h : Finer s e false s' e' false) (m : Nat) (neg : Bool) (at_ : Int) :
  gridN m neg s e false at_ = gridN m neg s' e' false at_ := by
 by_cases ha : e < at_
 ·exact grid_finer h m neg at_ ha
 ·obtain ⟨hle, hs, hm⟩ := h
  obtain ⟨d, hd⟩ : ∃ d, (e - e').toNat = d := ⟨_, rfl⟩
  rw [hd] at hs hm
  have hz : s' % 2 ^ d = 0 := by simpa using hm
  have hs' : s' = s * 2 ^ d := by
   have := Nat.div_add_mod s' (2 ^ d)
   rw [hz, ← hs, Nat.mul_comm] at this; omega
  unfold gridN
  rw [if_pos (by omega)]
  by_cases h2 : at_ ≤ e'
  ·rw [if_pos h2, hs', Nat.mul_assoc, ← Nat.pow_add, show d + (e' - at_).toNat = (e - at_).toNat by omega]
  ·rw [if_neg h2]
   have e1 : 2 ^ d = 2 ^ (at_ - e').toNat * 2 ^ (e - at_).toNat := by rw [← Nat.pow_add, show (at_ - e').toNat + (e - at_).toNat = d by omega]
   have z1 : s' % 2 ^ (at_ - e').toNat = 0 := by rw [hs', e1, Nat.mul_left_comm]; exact Nat.mul_mod_right _ _
   have z2 : s' / 2 ^ (at_ - e').toNat = s * 2 ^ (e - at_).toNat := by rw [hs', e1, Nat.mul_left_comm]; exact Nat.mul_div_cancel_left _ (two_pos _)
   rw [z1, z2]; simp [upB]
theorem lenN_div (a d : Nat) (h : a / 2 ^ d ≠ 0) : lenN (a / 2 ^ d) + d = lenN a := by
 have h1 := lenN_ge _ h
 have h2 := lenN_lt (a / 2 ^ d)
 have h3 := lenN_pos _ h
 symm
 apply lenN_unique
 ·rw [show lenN (a / 2 ^ d) + d - 1 = (lenN (a / 2 ^ d) - 1) + d by omega, Nat.pow_add]
  exact (Nat.le_div_iff_mul_le (two_pos d)).1 h1
 ·rw [Nat.pow_add]
  exact (Nat.div_lt_iff_lt_mul (two_pos d)).1 h2
 ·omega
theorem pack_finer {s : Nat} {e : Int} {mo : Bool} {s' : Nat} {e' : Int} {mo' : Bool} (h : Finer s e mo s' e' mo') (f m : Nat) (neg : Bool) (h0 : s ≠ 0) (hl : mo = true → pF f + 2 ≤ lenN s) :
  packB f m neg s e mo = packB f m neg s' e' mo' := by
 have ht : (lenN s' : Int) - 1 + e' = lenN s - 1 + e := by
  have := lenN_div s' (e - e').toNat (by rw [← h.sig]; exact h0)
  rw [← h.sig] at this
  have := h.le
  omega
 have hg : ∀ at_ : Int, (lenN s : Int) - 1 + e - pF f + 1 ≤ at_ → gridN m neg s e mo at_ = gridN m neg s' e' mo' at_ := by
  intro at_ hat
  cases hmo : mo with
  | true =>
   rw [hmo] at h
   have := hl hmo
   exact grid_finer h m neg at_ (by omega)
  | false =>
   rw [hmo] at h
   have h3 := h.more
   have : mo' = false := by cases mo' with | false => rfl | true => exact absurd h3 (by simp)
   rw [this] at h ⊢
   exact grid_same h m neg at_
 unfold packB tinyB
 rw [ht, hg _ (by unfold atN; omega), hg _ (by omega)]
theorem bit_t (a i : Nat) (h : a.testBit i = true) : a % 2 ^ (i + 1) = a % 2 ^ i + 2 ^ i := by
 rw [mod_split]
 rw [Nat.testBit_eq_decide_div_mod_eq, decide_eq_true_iff] at h
 rw [h, Nat.mul_one]
theorem bit_f (a i : Nat) (h : a.testBit i = false) : a % 2 ^ (i + 1) = a % 2 ^ i := by
 rw [mod_split]
 rw [Nat.testBit_eq_decide_div_mod_eq, decide_eq_false_iff_not] at h
 have : a / 2 ^ i % 2 < 2 := Nat.mod_lt _ (by decide)
 rw [show a / 2 ^ i % 2 = 0 by omega, Nat.mul_zero, Nat.add_zero]
theorem pow_parts (i n : Nat) (h : n ≤ i) : 2 ^ i = 2 ^ (i - n) * 2 ^ n := by rw [← Nat.pow_add]; congr 1; omega
theorem right_t (a n i : Nat) (h : a.testBit i = true) (hn : n ≤ i) : a % 2 ^ (i + 1) / 2 ^ n = a % 2 ^ i / 2 ^ n + 2 ^ (i - n) ∧ a % 2 ^ i / 2 ^ n < 2 ^ (i - n) := by
 constructor
 ·rw [bit_t a i h, pow_parts i n hn, Nat.add_mul_div_right _ _ (two_pos n)]
 ·rw [Nat.div_lt_iff_lt_mul (two_pos n), ← pow_parts i n hn]; exact Nat.mod_lt _ (two_pos i)
theorem right_lo (a n i : Nat) (hn : i ≤ n) : a % 2 ^ i / 2 ^ n = 0 :=
 Nat.div_eq_of_lt (Nat.lt_of_lt_of_le (Nat.mod_lt _ (two_pos i)) (Nat.pow_le_pow_right (by decide) hn))
def lostRi (a n i : Nat) : Bool := decide (a % 2 ^ min i n ≠ 0)
theorem lostRi_zero (a n : Nat) : lostRi a n 0 = false := by unfold lostRi; rw [Nat.zero_min, Nat.pow_zero, Nat.mod_one]; rfl
theorem lostRi_ge (a n i : Nat) (hn : n ≤ i) : lostRi a n (i + 1) = lostRi a n i := by unfold lostRi; rw [show min (i + 1) n = min i n by omega]
theorem lostRi_f (a n i : Nat) (h : a.testBit i = false) : lostRi a n (i + 1) = lostRi a n i := by
 rcases Nat.lt_or_ge i n with hi | hi
 ·unfold lostRi; rw [show min (i + 1) n = i + 1 by omega, show min i n = i by omega, bit_f a i h]
 ·exact lostRi_ge a n i hi
theorem lostRi_t (a n i : Nat) (h : a.testBit i = true) (hi : i < n) : lostRi a n (i + 1) = true := by
 unfold lostRi; rw [show min (i + 1) n = i + 1 by omega, bit_t a i h, decide_eq_true_iff]
 have := two_pos i; omega
theorem lostRi_all (a n i : Nat) (hn : n ≤ i) : lostRi a n i = decide (a % 2 ^ n ≠ 0) := by unfold lostRi; rw [Nat.min_eq_right hn]
def leftV (a n i : Nat) : Nat := a % 2 ^ i * 2 ^ n % top6
theorem leftV_zero (a n : Nat) : leftV a n 0 = 0 := by unfold leftV; rw [Nat.pow_zero, Nat.mod_one, Nat.zero_mul, Nat.zero_mod]
theorem top6_ge (i n : Nat) (h : i + n ≤ 384) : 2 ^ i * 2 ^ n ≤ top6 := by
 obtain ⟨k, hk⟩ : ∃ k, k = 64 * 6 := ⟨_, rfl⟩
 have e : ∀ k, k = 64 * 6 → top6 = 2 ^ k := by intro k hk; subst hk; exact top6.eq_1
 rw [e k hk, ← Nat.pow_add]
 exact Nat.pow_le_pow_right (by decide) (by omega)
theorem leftV_f (a n i : Nat) (h : a.testBit i = false) : leftV a n (i + 1) = leftV a n i := by unfold leftV; rw [bit_f a i h]
theorem leftV_t (a n i : Nat) (h : a.testBit i = true) (hi : i + n < 384) : leftV a n (i + 1) = leftV a n i + 2 ^ (i + n) ∧ leftV a n i < 2 ^ (i + n) := by
 have h1 : a % 2 ^ i * 2 ^ n < 2 ^ (i + n) := by rw [Nat.pow_add]; exact Nat.mul_lt_mul_of_pos_right (Nat.mod_lt _ (two_pos i)) (two_pos n)
 have h2 : 2 ^ (i + n) + 2 ^ (i + n) ≤ top6 := by
  have := top6_ge (i + 1) n (by omega)
  rw [← Nat.pow_add, show i + 1 + n = (i + n) + 1 by omega, Nat.pow_succ] at this; omega
 unfold leftV
 rw [bit_t a i h, Nat.add_mul, ← Nat.pow_add]
 generalize a % 2 ^ i * 2 ^ n = x at *
 generalize 2 ^ (i + n) = y at *
 rw [Nat.mod_eq_of_lt (show x + y < top6 by omega), Nat.mod_eq_of_lt (show x < top6 by omega)]
 exact ⟨rfl, h1⟩
theorem leftV_o (a n i : Nat) (h : a.testBit i = true) (hi : 384 ≤ i + n) : leftV a n (i + 1) = leftV a n i := by
 unfold leftV
 rw [bit_t a i h, Nat.add_mul, ← Nat.pow_add, show i + n = 64 * 6 + (i + n - 384) by omega, Nat.pow_add, ← top6.eq_1, Nat.add_mul_mod_self_left]
def lostLi (a n i : Nat) : Bool := decide (2 ^ (384 - n) ≤ a % 2 ^ i)
theorem lostLi_lo (a n i : Nat) (hi : i + n ≤ 384) : lostLi a n i = false := by
 unfold lostLi; rw [decide_eq_false_iff_not, Nat.not_le]
 exact Nat.lt_of_lt_of_le (Nat.mod_lt _ (two_pos i)) (Nat.pow_le_pow_right (by decide) (by omega))
theorem lostLi_f (a n i : Nat) (h : a.testBit i = false) : lostLi a n (i + 1) = lostLi a n i := by unfold lostLi; rw [bit_f a i h]
theorem lostLi_t (a n i : Nat) (h : a.testBit i = true) (hi : 384 ≤ i + n) : lostLi a n (i + 1) = true := by
 unfold lostLi; rw [bit_t a i h, decide_eq_true_iff]
 have : 2 ^ (384 - n) ≤ 2 ^ i := Nat.pow_le_pow_right (by decide) (by omega)
 omega
theorem mod_384 (a k : Nat) (hk : k = 384) (ha : a < top6) : a % 2 ^ k = a := Nat.mod_eq_of_lt (by rw [hk, show 384 = 64 * 6 from rfl, ← top6.eq_1]; exact ha)
theorem leftV_all (a n k : Nat) (hk : k = 384) (ha : a < top6) : leftV a n k = a * 2 ^ n % top6 := by unfold leftV; rw [mod_384 a k hk ha]
theorem pow_top (n : Nat) (hn : n ≤ 384) : top6 = 2 ^ (384 - n) * 2 ^ n := by rw [← Nat.pow_add, top6.eq_1, show 384 - n + n = 64 * 6 by omega]
theorem lostLi_all (a n k : Nat) (hk : k = 384) (ha : a < top6) (hn : n ≤ 384) : lostLi a n k = decide (top6 ≤ a * 2 ^ n) := by
 unfold lostLi; rw [mod_384 a k hk ha, pow_top n hn, decide_eq_decide]
 exact ⟨fun h => Nat.mul_le_mul_right _ h, fun h => Nat.le_of_mul_le_mul_right h (two_pos n)⟩
theorem mask_step (i : Nat) : 2 ^ (i + 1) - 1 = (2 ^ i - 1) + 2 ^ i ∧ 2 ^ i - 1 < 2 ^ i := by
 have := two_pos i
 rw [Nat.pow_succ]; omega
theorem low_any (a n : Nat) (ha : a < top6) (hn : n ≤ 384) : decide (a % 2 ^ n ≠ 0) = lostR a n := by
 unfold lostR
 by_cases h : a = 0
 ·subst h; simp
 ·obtain ⟨m, h1, h2⟩ := lowN_spec a ha h
  generalize lowN a = l at *
  rw [decide_eq_false h, Bool.not_false, Bool.true_and, decide_eq_decide]
  rw [h1]
  constructor
  ·intro h3
   rcases Nat.lt_or_ge l n with h4 | h4
   ·exact h4
   ·exfalso; apply h3
    rw [pow_parts l n h4, Nat.mul_comm (2 ^ (l - n)), Nat.mul_assoc, Nat.mul_mod_right]
  ·intro h3 h4
   obtain ⟨d, rfl⟩ : ∃ d, n = l + (d + 1) := ⟨n - l - 1, by omega⟩
   rw [Nat.pow_add, Nat.mul_mod_mul_left] at h4
   have h5 := two_pos l
   have h6 : (2 * m + 1) % 2 ^ (d + 1) = 0 := by rcases Nat.mul_eq_zero.1 h4 with h | h; omega; exact h
   rw [Nat.pow_succ, Nat.mul_comm (2 ^ d), Nat.mod_mul] at h6
   have h7 : (2 * m + 1) % 2 = 1 := by omega
   omega
theorem set_bit_at (t p i s : Nat) (ht : t < 2 ^ p) (hp : p = 64 * i + s) (hs : s < 64) (hi : i < 6) :
  setRow (limbs t) i (#[.int .u64 (Go.bits .or .u64 (limb t i) (IntKind.u64.wrap (2 ^ s)))] : Array Value).toList = limbs (t + 2 ^ p) := by
 subst hp
 exact limbs_top t i s ht hs hi
section
variable {P : Program} {w0 w : World} {L : List Bk} {op : Oper} {a : Act} {K : Act → World → Prop} {Q : Exit → Act → World → Prop}
theorem Own.op_box (H : Own w0 w L) {T : TypeId} {x : Operand} (ho : op.op = .box T x) {cs : Array Value} (hx : (a.eval x).cells = cs)
  (h : ∀ g w', Own w0 w' ((g, T, cs) :: L) → K (a.put op.dst (.pointer (some ⟨g, 0, none⟩))) w') : op.wp P a w K Q := by
 subst hx
 have hk := h _ _ (H.alloc T (a.eval x).cells)
 unfold Oper.wp execOp
 simp only [ho]
 exact hk
theorem Own.op_alloc (H : Own w0 w L) {T : TypeId} (ho : op.op = .alloc T) {z : Value} (hz : (P.info? T).bind (·.zero) = some z) {cs : Array Value} (hx : z.cells = cs)
  (h : ∀ g w', Own w0 w' ((g, T, cs) :: L) → K (a.put op.dst (.pointer (some ⟨g, 0, none⟩))) w') : op.wp P a w K Q := by
 subst hx
 have hk := h _ _ (H.alloc T z.cells)
 unfold Oper.wp execOp
 simp only [ho, Instr.alloc, Sem.run_bind, run_zeroValue hz, Result.andThen_ok]
 exact hk
theorem Own.op_load (H : Own w0 w L) {ty : TypeId} {x : Operand} (ho : op.op = .load ty x) {g o : Nat} (hx : a.eval x = .pointer (some ⟨g, o, none⟩))
  (i : Nat) {T : TypeId} {cs : Array Value} (hi : L[i]? = some (g, T, cs)) {d : TypeDesc} (hu : P.underlying ty = some d) (hd : d.isRow = true) {v : Array Value} (hv : cs.extract o (o + v.size) = v)
  (hs : (P.info? ty).map (·.size) = some v.size) (h : K (a.put op.dst (.agg v)) w) : op.wp P a w K Q :=
 wp_load_mid (P := P) ty x ho g o hx v.toList d (H.range i hi o _ hv) hu hd (by simpa using hs) (by simpa using h)
theorem Own.op_load1 (H : Own w0 w L) {ty : TypeId} {x : Operand} (ho : op.op = .load ty x) {g o : Nat} (hx : a.eval x = .pointer (some ⟨g, o, none⟩))
  (i : Nat) {T : TypeId} {cs : Array Value} (hi : L[i]? = some (g, T, cs)) {d : TypeDesc} (hu : P.underlying ty = some d) (hd : d.isRow = false) {v : Value}
  (hv : cs[o]? = some v) (h : K (a.put op.dst v) w) : op.wp P a w K Q := by
 unfold Oper.wp execOp
 simp only [ho, hx, Instr.loadAt, Instr.sureAddr, Sem.run_bind, Sem.run_pure, Result.andThen_ok, run_loadVar_one hu hd _ ((H.at i hi).cell o hv)]
 exact h
theorem Own.op_store (H : Own w0 w L) {ty : TypeId} {x y : Operand} (ho : op.op = .store ty x y) {g o : Nat} (hx : a.eval x = .pointer (some ⟨g, o, none⟩))
  {vs : Array Value} (hy : (a.eval y).cells = vs)
  (i : Nat) {T : TypeId} {cs : Array Value} (hi : L[i]? = some (g, T, cs)) {cs' : Array Value} (hv : setRow cs o vs.toList = cs') (hs : (P.info? ty).map (·.size) = some vs.size) (h1 : vs.all (·.oneCell') = true) (hn : o + vs.size ≤ cs.size)
  (h : ∀ w', Own w0 w' (L.set i (g, T, cs')) → K (a.put op.dst undef) w') : op.wp P a w K Q := by
 have hk := h _ (H.set i hi o vs.toList hv)
 have ht := H.there i hi o vs.size hn
 have := run_storeCells_cells (P := P) g o vs.toList 0 w (fun j hj => by simpa using (ht j (by simpa using hj)).1) (fun j hj => by simpa using (ht j (by simpa using hj)).2)
  (fun v hv => (Array.all_eq_true_iff_forall_mem.1 h1) v (by simpa using hv))
 simp only [Nat.add_zero] at this
 have hst : (storeVar ty ⟨g, o, none⟩ (a.eval y)).run P w = .ok () (w.setCells g o vs.toList) := by
  cases hq : P.info? ty with
  | none => simp [hq] at hs
  | some inf =>
   have hs' : vs.size = inf.size := by simp [hq] at hs; omega
   simp [storeVar, sizeOf, typeInfo, hq, hy, hs', this]
 unfold Oper.wp execOp
 simp only [ho, hx, Instr.storeAt, Instr.sureAddr, Sem.run_bind, Sem.run_pure, Result.andThen_ok, hst]
 exact hk
variable {ops : Array Oper} {rest : List Oper}
theorem wp_wanted (hw : Region.wanted op (yielded ops a.tmps) = true) (h : ∀ K : Act → World → Prop, (∀ a w, wpList P ops Q rest a w → K a w) → op.wp P a w K Q) : wpList P ops Q (op :: rest) a w :=
 wpList_step fun K hK => by rw [if_pos hw]; exact h K hK
theorem Own.box (H : Own w0 w L) (hw : Region.wanted op (yielded ops a.tmps) = true) {T : TypeId} {x : Operand} (ho : op.op = .box T x) {cs : Array Value} (hx : (a.eval x).cells = cs)
  (h : ∀ g w', Own w0 w' ((g, T, cs) :: L) → wpList P ops Q rest (a.put op.dst (.pointer (some ⟨g, 0, none⟩))) w') : wpList P ops Q (op :: rest) a w :=
 wp_wanted hw fun _ hK => H.op_box ho hx fun g w' hh => hK _ _ (h g w' hh)
theorem Own.new (H : Own w0 w L) (hw : Region.wanted op (yielded ops a.tmps) = true) {T : TypeId} (ho : op.op = .alloc T) {z : Value} (hz : (P.info? T).bind (·.zero) = some z) {cs : Array Value} (hx : z.cells = cs)
  (h : ∀ g w', Own w0 w' ((g, T, cs) :: L) → wpList P ops Q rest (a.put op.dst (.pointer (some ⟨g, 0, none⟩))) w') : wpList P ops Q (op :: rest) a w :=
 wp_wanted hw fun _ hK => H.op_alloc ho hz hx fun g w' hh => hK _ _ (h g w' hh)
theorem Own.load (H : Own w0 w L) (hw : Region.wanted op (yielded ops a.tmps) = true) {ty : TypeId} {x : Operand} (ho : op.op = .load ty x) {g o : Nat} (hx : a.eval x = .pointer (some ⟨g, o, none⟩))
  (i : Nat) {T : TypeId} {cs : Array Value} (hi : L[i]? = some (g, T, cs)) {d : TypeDesc} (hu : P.underlying ty = some d) (hd : d.isRow = true) {v : Array Value} (hv : cs.extract o (o + v.size) = v)
  (hs : (P.info? ty).map (·.size) = some v.size) (h : wpList P ops Q rest (a.put op.dst (.agg v)) w) : wpList P ops Q (op :: rest) a w :=
 wp_wanted hw fun _ hK => H.op_load ho hx i hi hu hd hv hs (hK _ _ h)
theorem Own.load1 (H : Own w0 w L) (hw : Region.wanted op (yielded ops a.tmps) = true) {ty : TypeId} {x : Operand} (ho : op.op = .load ty x) {g o : Nat} (hx : a.eval x = .pointer (some ⟨g, o, none⟩))
  (i : Nat) {T : TypeId} {cs : Array Value} (hi : L[i]? = some (g, T, cs)) {d : TypeDesc} (hu : P.underlying ty = some d) (hd : d.isRow = false) {v : Value}
  (hv : cs[o]? = some v) (h : wpList P ops Q rest (a.put op.dst v) w) : wpList P ops Q (op :: rest) a w :=
 wp_wanted hw fun _ hK => H.op_load1 ho hx i hi hu hd hv (hK _ _ h)
theorem Own.store (H : Own w0 w L) (hw : Region.wanted op (yielded ops a.tmps) = true) {ty : TypeId} {x y : Operand} (ho : op.op = .store ty x y) {g o : Nat} (hx : a.eval x = .pointer (some ⟨g, o, none⟩))
  {vs : Array Value} (hy : (a.eval y).cells = vs)
  (i : Nat) {T : TypeId} {cs : Array Value} (hi : L[i]? = some (g, T, cs)) {cs' : Array Value} (hv : setRow cs o vs.toList = cs') (hs : (P.info? ty).map (·.size) = some vs.size) (h1 : vs.all (·.oneCell') = true) (hn : o + vs.size ≤ cs.size)
  (h : ∀ w', Own w0 w' (L.set i (g, T, cs')) → wpList P ops Q rest (a.put op.dst undef) w') : wpList P ops Q (op :: rest) a w :=
 wp_wanted hw fun _ hK => H.op_store ho hx hy i hi hv hs h1 hn fun w' hh => hK _ _ (h w' hh)
variable {S : World → Prop} {md : Region.Mode} {fuel : Nat} {listed : Array Bool}
theorem held_one {i : Nat} (hr : Region.ready md ops listed = [i]) (ho : ops[i]? = some op) (hw : Region.wanted op (yielded ops a.tmps) = true)
  (h : op.wp P a w (fun a' w' => S w' ∧ wpAnyH P md ops Q S fuel (listed.setIfInBounds i true) a' w') Q) : wpAnyH P md ops Q S (fuel + 1) listed a w := by
 refine wpAnyH_all hr (by simp) ?_
 intro j hj
 obtain rfl := List.mem_singleton.1 hj
 unfold wpOp
 simp only [ho, hw, if_true]
 exact Or.inl h
theorem held_two {i k : Nat} {op2 : Oper} (hr : Region.ready md ops listed = [i, k]) (ho : ops[i]? = some op) (hw : Region.wanted op (yielded ops a.tmps) = true) (ho2 : ops[k]? = some op2) (hw2 : Region.wanted op2 (yielded ops a.tmps) = true)
  (h : op.wp P a w (fun a' w' => S w' ∧ wpAnyH P md ops Q S fuel (listed.setIfInBounds i true) a' w') Q)
  (h2 : op2.wp P a w (fun a' w' => S w' ∧ wpAnyH P md ops Q S fuel (listed.setIfInBounds k true) a' w') Q) : wpAnyH P md ops Q S (fuel + 1) listed a w := by
 refine wpAnyH_all hr (by simp) ?_
 intro j hj
 rcases List.mem_cons.1 hj with rfl | hj
 ·unfold wpOp
  simp only [ho, hw, if_true]
  exact Or.inl h
 ·obtain rfl := List.mem_singleton.1 hj
  unfold wpOp
  simp only [ho2, hw2, if_true]
  exact Or.inl h2
end
section
variable {P : Program} {w : World}
variable {fn : Func} {tmps : Array Value}
theorem results_c {t : Tmp} {T : TypeId} (h : fn.results = #[.cell t T]) {A : Addr} (ha : tmps.getD t undef = .pointer (some A)) {v : Value} (hr : (loadVar T A).run P w = .ok v w) :
  (results fn tmps).run P w = .ok v w := by
 rw [Array.getD_eq_getD_getElem?] at ha
 simp [results, h, ha, asAddr, hr]
theorem results_ct {t u : Tmp} {T : TypeId} (h : fn.results = #[.cell t T, .tmp u]) {A : Addr} (ha : tmps.getD t undef = .pointer (some A)) {v : Value} (hr : (loadVar T A).run P w = .ok v w) :
  (results fn tmps).run P w = .ok (.tuple #[v, tmps.getD u undef]) w := by
 rw [Array.getD_eq_getD_getElem?] at ha
 simp [results, h, ha, asAddr, hr]
theorem results_ctt {t u x : Tmp} {T : TypeId} (h : fn.results = #[.cell t T, .tmp u, .tmp x]) {A : Addr} (ha : tmps.getD t undef = .pointer (some A)) {v : Value} (hr : (loadVar T A).run P w = .ok v w) :
  (results fn tmps).run P w = .ok (.tuple #[v, tmps.getD u undef, tmps.getD x undef]) w := by
 rw [Array.getD_eq_getD_getElem?] at ha
 simp [results, h, ha, asAddr, hr]
end
theorem cells_agg (cs : Array Value) : (Value.agg cs).cells = cs := rfl
theorem cells_int (k : IntKind) (n : Int) : (Value.int k n).cells = #[Value.int k n] := rfl
theorem cells_bool (b : Bool) : (Value.bool b).cells = #[Value.bool b] := rfl
theorem cells_ptr (p : Option Addr) : (Value.pointer p).cells = #[Value.pointer p] := rfl
theorem cells_str (s : ByteArray) : (Value.string s).cells = #[Value.string s] := rfl
theorem ext_2 (x y : Value) : (#[x, y] : Array Value).extract 0 (0 + (#[x, y] : Array Value).size) = #[x, y] := rfl
theorem get_20 (x y : Value) : (#[x, y] : Array Value)[0]? = some x := rfl
theorem get_21 (x y : Value) : (#[x, y] : Array Value)[1]? = some y := rfl
theorem get_10 (x : Value) : (#[x] : Array Value)[0]? = some x := rfl
theorem set_20 (x y x' : Value) : setRow #[x, y] 0 (#[x'] : Array Value).toList = #[x', y] := rfl
theorem set_21 (x y y' : Value) : setRow #[x, y] 1 (#[y'] : Array Value).toList = #[x, y'] := rfl
theorem set_10 (x x' : Value) : setRow #[x] 0 (#[x'] : Array Value).toList = #[x'] := rfl
theorem ble_le {a b : Nat} (h : Nat.ble a b = true) : a ≤ b := Nat.le_of_ble_eq_true h
section
variable {P : Program} {w : World} {op : Oper} {a : Act} {Q : Exit → Act → World → Prop} {ops : Array Oper} {S : World → Prop} {md : Region.Mode} {fuel : Nat} {listed : Array Bool}
theorem held_three {i k l : Nat} {op2 op3 : Oper} (hr : Region.ready md ops listed = [i, k, l]) (ho : ops[i]? = some op) (hw : Region.wanted op (yielded ops a.tmps) = true) (ho2 : ops[k]? = some op2) (hw2 : Region.wanted op2 (yielded ops a.tmps) = true) (ho3 : ops[l]? = some op3) (hw3 : Region.wanted op3 (yielded ops a.tmps) = true)
  (h : op.wp P a w (fun a' w' => S w' ∧ wpAnyH P md ops Q S fuel (listed.setIfInBounds i true) a' w') Q)
  (h2 : op2.wp P a w (fun a' w' => S w' ∧ wpAnyH P md ops Q S fuel (listed.setIfInBounds k true) a' w') Q)
  (h3 : op3.wp P a w (fun a' w' => S w' ∧ wpAnyH P md ops Q S fuel (listed.setIfInBounds l true) a' w') Q) : wpAnyH P md ops Q S (fuel + 1) listed a w := by
 refine wpAnyH_all hr (by simp) ?_
 intro j hj
 rcases List.mem_cons.1 hj with rfl | hj
 ·unfold wpOp
  simp only [ho, hw, if_true]
  exact Or.inl h
 ·rcases List.mem_cons.1 hj with rfl | hj
  ·unfold wpOp
   simp only [ho2, hw2, if_true]
   exact Or.inl h2
  ·obtain rfl := List.mem_singleton.1 hj
   unfold wpOp
   simp only [ho3, hw3, if_true]
   exact Or.inl h3
theorem Own.perm {w0 w : World} {L L' : List Bk} (H : Own w0 w L) (h : L.Perm L') : Own w0 w L' :=
 ⟨H.below, fun x hx => H.blk x (h.mem_iff.2 hx), fun x hx => H.ge x (h.mem_iff.2 hx), (h.pairwise_iff (fun h e => h e.symm)).1 H.ne⟩
theorem Own.join1 {w0 : World} {L0 : List Bk} (_H : Own w0 w L0) {c : Code} {Q' : Exit → Act → World → Prop} {A : Nat → Act} {L : Nat → List Bk}
  (h1 : c.wp P (fun e a' w' => e = .normal ∧ ∃ x, a' = A x ∧ Own w0 w' (L x)) a w) (h2 : ∀ x w', Own w0 w' (L x) → Q' .normal (A x) w') : c.wp P Q' a w := by
 refine Code.wp_mono ?_ h1
 rintro e a' w' ⟨rfl, x, rfl, h⟩
 exact h2 x w' h
theorem Own.join3 {w0 : World} {L0 : List Bk} (_H : Own w0 w L0) {c : Code} {Q' : Exit → Act → World → Prop} {A : Nat → Nat → Nat → Act} {L : Nat → Nat → Nat → List Bk}
  (h1 : c.wp P (fun e a' w' => e = .normal ∧ ∃ x y z, a' = A x y z ∧ Own w0 w' (L x y z)) a w) (h2 : ∀ x y z w', Own w0 w' (L x y z) → Q' .normal (A x y z) w') : c.wp P Q' a w := by
 refine Code.wp_mono ?_ h1
 rintro e a' w' ⟨rfl, x, y, z, rfl, h⟩
 exact h2 x y z w' h
end
theorem kindClass_nan (f b e t em p : Nat) (neg qb : Bool) (w : World) (hem : em ≤ 16383) (hp1 : 11 ≤ p) (hp2 : p ≤ 113) (ht : t < top6) (hT : Tab w)
  (cF : CT_ 187 #[.int .u8 f, BV b] (.tuple #[.bool neg, .int .i64 (e : Nat), W t]))
  (cE : CK_ 142 #[.int .u8 f] (.int .i64 (em : Nat)))
  (cP : CK_ 79 #[.int .u8 f] (.int .i64 (p : Nat)))
  (hz : decide (t = 0) = false) (hx : (e : Int) = 2 * (em : Int) + 1) (hy : 0 < (e : Int)) (hq : t.testBit (p - 2) = qb) :
  CR_ 124 #[.int .u8 f, BV b] w (.int .u8 (cond qb 9 8)) := by
 have eq0 := fun w => (run_equal_zero w t ht).trans (by rw [hz])
 have eq1 : ∀ w, (Op.equalIn 10000 60 (.agg (limbs t)) (.agg #[.int .u64 0, .int .u64 0, .int .u64 0, .int .u64 0, .int .u64 0, .int .u64 0])).run Tryz.prog w = .ok false w := eq0
 have vp : IntKind.i64.wrap ((p : Int) - 2) = ((p - 2 : Nat) : Int) := by rw [show (p : Int) - 2 = ((p - 2 : Nat) : Int) by omega]; exact IntWalk.i64_in _ (by omega)
 have HT := Lib.hid (hT.below ((Below.refl w.heap.size w).alloc (Nat.le_refl _) (.cells #[.int .u64 (limb b 1), .int .u64 (limb b 0)] 27 (0, 0))))
 have HA := Lib.hid ht
 obtain ⟨r, hr⟩ : ∃ r, p - 2 = r := ⟨_, rfl⟩
 rw [hr] at vp hq
 have hxb : ((e : Int) == 2 * (em : Int) + 1) = true := by simp; omega
 have hyb : ((e : Int) == 0) = false := by simp; omega
 clear ht hz hT hp1 hp2 hr
 cases neg <;> cases qb <;>
 ·go_enter Tryz.func124, Tryz.ntmps124
  go_wp2_with fail
  refine (cF _ HT.out).mono ?_
  rintro e' w1 ⟨rfl, hb1⟩
  go_wp2_with fail
  refine (cE _).mono ?_
  rintro e' w2 ⟨rfl, hb2⟩
  have b7 : Blk 60 w2 w1.heap.size (limbs t) := (Blk.new w1 (limbs t)).below hb2 (by simp)
  obtain ⟨c0, c1, c2, c3, c4, c5⟩ := b7.six
  go_wp2_with fail
  go_region_held3 (fun w' => w'.cell? ⟨w1.heap.size, 0, none⟩ = some (.int .u64 (limb t 0)) ∧ w'.cell? ⟨w1.heap.size, 1, none⟩ = some (.int .u64 (limb t 1)) ∧ w'.cell? ⟨w1.heap.size, 2, none⟩ = some (.int .u64 (limb t 2)) ∧ w'.cell? ⟨w1.heap.size, 3, none⟩ = some (.int .u64 (limb t 3)) ∧ w'.cell? ⟨w1.heap.size, 4, none⟩ = some (.int .u64 (limb t 4)) ∧ w'.cell? ⟨w1.heap.size, 5, none⟩ = some (.int .u64 (limb t 5)))
   (first | with_reducible exact ⟨g0, g1, g2, g3, g4, g5⟩ | with_reducible exact ⟨k0, k1, k2, k3, k4, k5⟩ | exact ⟨c0, c1, c2, c3, c4, c5⟩)
   (first
   | (go_at_call 79; refine (cP _).mono ?_; rintro e' w3 ⟨rfl, hb3⟩; have B3 := b7.drew.below hb3 b7.lt; obtain ⟨k0, k1, k2, k3, k4, k5⟩ := B3.six)
   | (go_at_call 188; refine (wideBit_any t (r : Int) _).mono ?_; rw [bitI_in t r HA.out, hq]; rintro e' w4 ⟨rfl, hb4⟩; obtain ⟨g0, g1, g2, g3, g4, g5⟩ := (B3.below hb4 B3.lt).six))
  all_goals
   have hs1 := hb1.size
   have hs2 := hb2.size
   have hs3 := hb3.size
   simp at hs1 hs2
   have HF := Lib.hid ((((((((Below.refl w.heap.size w).alloc (Nat.le_refl _) (.cells #[.int .u64 (limb b 1), .int .u64 (limb b 0)] 27 (0, 0))).trans (hb1.mono (by simp))).alloc (by omega) (.cells (limbs t) 60 (0, 0))).trans (hb2.mono (by simp; omega))).drew).trans (hb3.mono (by have := b7.lt; simp; omega))).trans (hb4.mono (by have := B3.lt; omega)))
   clear hs1 hs2 hs3 hb1 hb2 hb3 hb4 b7 B3
   go_wp2
   go_ret
   exact ⟨rfl, HF.out⟩
theorem kindClass_inf (f b e t em p : Nat) (neg qb : Bool) (w : World) (hem : em ≤ 16383) (hp1 : 11 ≤ p) (hp2 : p ≤ 113) (ht : t < top6) (hT : Tab w)
  (cF : CT_ 187 #[.int .u8 f, BV b] (.tuple #[.bool neg, .int .i64 (e : Nat), W t]))
  (cE : CK_ 142 #[.int .u8 f] (.int .i64 (em : Nat)))
  (cP : CK_ 79 #[.int .u8 f] (.int .i64 (p : Nat)))
  (hz : decide (t = 0) = true) (hx : (e : Int) = 2 * (em : Int) + 1) (hy : 0 < (e : Int)) :
  CR_ 124 #[.int .u8 f, BV b] w (.int .u8 (cond neg (7 - 7) 7)) := by
 have eq0 := fun w => (run_equal_zero w t ht).trans (by rw [hz])
 have eq1 : ∀ w, (Op.equalIn 10000 60 (.agg (limbs t)) (.agg #[.int .u64 0, .int .u64 0, .int .u64 0, .int .u64 0, .int .u64 0, .int .u64 0])).run Tryz.prog w = .ok true w := eq0
 have vp : IntKind.i64.wrap ((p : Int) - 2) = ((p - 2 : Nat) : Int) := by rw [show (p : Int) - 2 = ((p - 2 : Nat) : Int) by omega]; exact IntWalk.i64_in _ (by omega)
 have HT := Lib.hid (hT.below ((Below.refl w.heap.size w).alloc (Nat.le_refl _) (.cells #[.int .u64 (limb b 1), .int .u64 (limb b 0)] 27 (0, 0))))
 have HA := Lib.hid ht
 have hxb : ((e : Int) == 2 * (em : Int) + 1) = true := by simp; omega
 have hyb : ((e : Int) == 0) = false := by simp; omega
 clear ht hz hT hp1 hp2 vp
 cases neg <;>
 ·go_enter Tryz.func124, Tryz.ntmps124
  go_wp2_with fail
  refine (cF _ HT.out).mono ?_
  rintro e' w1 ⟨rfl, hb1⟩
  go_wp2_with fail
  refine (cE _).mono ?_
  rintro e' w2 ⟨rfl, hb2⟩
  go_wp2_with fail
  refine (cE _).mono ?_
  rintro e' w3 ⟨rfl, hb3⟩
  go_wp2
  go_ret
  have hs1 := hb1.size
  have hs2 := hb2.size
  simp at hs1 hs2
  exact ⟨rfl, (((((Below.refl w.heap.size w).alloc (Nat.le_refl _) (.cells #[.int .u64 (limb b 1), .int .u64 (limb b 0)] 27 (0, 0))).trans (hb1.mono (by simp))).alloc (by omega) (.cells (limbs t) 60 (0, 0))).trans (hb2.mono (by simp; omega))).trans (hb3.mono (by omega))⟩
theorem kindClass_nor (f b e t em p : Nat) (neg qb : Bool) (w : World) (hem : em ≤ 16383) (hp1 : 11 ≤ p) (hp2 : p ≤ 113) (ht : t < top6) (hT : Tab w)
  (cF : CT_ 187 #[.int .u8 f, BV b] (.tuple #[.bool neg, .int .i64 (e : Nat), W t]))
  (cE : CK_ 142 #[.int .u8 f] (.int .i64 (em : Nat)))
  (cP : CK_ 79 #[.int .u8 f] (.int .i64 (p : Nat)))
  (hz : decide (t = 0) = false) (hx : ¬ (e : Int) = 2 * (em : Int) + 1) (hy : 0 < (e : Int)) :
  CR_ 124 #[.int .u8 f, BV b] w (.int .u8 (cond neg (7 - 6) 6)) := by
 have eq0 := fun w => (run_equal_zero w t ht).trans (by rw [hz])
 have eq1 : ∀ w, (Op.equalIn 10000 60 (.agg (limbs t)) (.agg #[.int .u64 0, .int .u64 0, .int .u64 0, .int .u64 0, .int .u64 0, .int .u64 0])).run Tryz.prog w = .ok false w := eq0
 have vp : IntKind.i64.wrap ((p : Int) - 2) = ((p - 2 : Nat) : Int) := by rw [show (p : Int) - 2 = ((p - 2 : Nat) : Int) by omega]; exact IntWalk.i64_in _ (by omega)
 have HT := Lib.hid (hT.below ((Below.refl w.heap.size w).alloc (Nat.le_refl _) (.cells #[.int .u64 (limb b 1), .int .u64 (limb b 0)] 27 (0, 0))))
 have HA := Lib.hid ht
 have hxb : ((e : Int) == 2 * (em : Int) + 1) = false := by simp; omega
 have hyb : ((e : Int) == 0) = false := by simp; omega
 clear ht hz hT hp1 hp2 vp
 cases neg <;>
 ·go_enter Tryz.func124, Tryz.ntmps124
  go_wp2_with fail
  refine (cF _ HT.out).mono ?_
  rintro e' w1 ⟨rfl, hb1⟩
  go_wp2_with fail
  refine (cE _).mono ?_
  rintro e' w2 ⟨rfl, hb2⟩
  go_wp2
  go_ret
  have hs1 := hb1.size
  have hs2 := hb2.size
  simp at hs1 hs2
  exact ⟨rfl, ((((Below.refl w.heap.size w).alloc (Nat.le_refl _) (.cells #[.int .u64 (limb b 1), .int .u64 (limb b 0)] 27 (0, 0))).trans (hb1.mono (by simp))).alloc (by omega) (.cells (limbs t) 60 (0, 0))).trans (hb2.mono (by simp; omega))⟩
theorem kindClass_pow (f b e t em p : Nat) (neg qb : Bool) (w : World) (hem : em ≤ 16383) (hp1 : 11 ≤ p) (hp2 : p ≤ 113) (ht : t < top6) (hT : Tab w)
  (cF : CT_ 187 #[.int .u8 f, BV b] (.tuple #[.bool neg, .int .i64 (e : Nat), W t]))
  (cE : CK_ 142 #[.int .u8 f] (.int .i64 (em : Nat)))
  (cP : CK_ 79 #[.int .u8 f] (.int .i64 (p : Nat)))
  (hz : decide (t = 0) = true) (hx : ¬ (e : Int) = 2 * (em : Int) + 1) (hy : 0 < (e : Int)) :
  CR_ 124 #[.int .u8 f, BV b] w (.int .u8 (cond neg (7 - 6) 6)) := by
 have eq0 := fun w => (run_equal_zero w t ht).trans (by rw [hz])
 have eq1 : ∀ w, (Op.equalIn 10000 60 (.agg (limbs t)) (.agg #[.int .u64 0, .int .u64 0, .int .u64 0, .int .u64 0, .int .u64 0, .int .u64 0])).run Tryz.prog w = .ok true w := eq0
 have vp : IntKind.i64.wrap ((p : Int) - 2) = ((p - 2 : Nat) : Int) := by rw [show (p : Int) - 2 = ((p - 2 : Nat) : Int) by omega]; exact IntWalk.i64_in _ (by omega)
 have HT := Lib.hid (hT.below ((Below.refl w.heap.size w).alloc (Nat.le_refl _) (.cells #[.int .u64 (limb b 1), .int .u64 (limb b 0)] 27 (0, 0))))
 have HA := Lib.hid ht
 have hxb : ((e : Int) == 2 * (em : Int) + 1) = false := by simp; omega
 have hyb : ((e : Int) == 0) = false := by simp; omega
 clear ht hz hT hp1 hp2 vp
 cases neg <;>
 ·go_enter Tryz.func124, Tryz.ntmps124
  go_wp2_with fail
  refine (cF _ HT.out).mono ?_
  rintro e' w1 ⟨rfl, hb1⟩
  go_wp2_with fail
  refine (cE _).mono ?_
  rintro e' w2 ⟨rfl, hb2⟩
  go_wp2_with fail
  refine (cE _).mono ?_
  rintro e' w3 ⟨rfl, hb3⟩
  go_wp2
  go_ret
  have hs1 := hb1.size
  have hs2 := hb2.size
  simp at hs1 hs2
  exact ⟨rfl, (((((Below.refl w.heap.size w).alloc (Nat.le_refl _) (.cells #[.int .u64 (limb b 1), .int .u64 (limb b 0)] 27 (0, 0))).trans (hb1.mono (by simp))).alloc (by omega) (.cells (limbs t) 60 (0, 0))).trans (hb2.mono (by simp; omega))).trans (hb3.mono (by omega))⟩
theorem kindClass_sub (f b e t em p : Nat) (neg qb : Bool) (w : World) (hem : em ≤ 16383) (hp1 : 11 ≤ p) (hp2 : p ≤ 113) (ht : t < top6) (hT : Tab w)
  (cF : CT_ 187 #[.int .u8 f, BV b] (.tuple #[.bool neg, .int .i64 (e : Nat), W t]))
  (cE : CK_ 142 #[.int .u8 f] (.int .i64 (em : Nat)))
  (cP : CK_ 79 #[.int .u8 f] (.int .i64 (p : Nat)))
  (hz : decide (t = 0) = false) (hx : ¬ (e : Int) = 2 * (em : Int) + 1) (hy : (e : Int) = 0) :
  CR_ 124 #[.int .u8 f, BV b] w (.int .u8 (cond neg (7 - 5) 5)) := by
 have eq0 := fun w => (run_equal_zero w t ht).trans (by rw [hz])
 have eq1 : ∀ w, (Op.equalIn 10000 60 (.agg (limbs t)) (.agg #[.int .u64 0, .int .u64 0, .int .u64 0, .int .u64 0, .int .u64 0, .int .u64 0])).run Tryz.prog w = .ok false w := eq0
 have vp : IntKind.i64.wrap ((p : Int) - 2) = ((p - 2 : Nat) : Int) := by rw [show (p : Int) - 2 = ((p - 2 : Nat) : Int) by omega]; exact IntWalk.i64_in _ (by omega)
 have HT := Lib.hid (hT.below ((Below.refl w.heap.size w).alloc (Nat.le_refl _) (.cells #[.int .u64 (limb b 1), .int .u64 (limb b 0)] 27 (0, 0))))
 have HA := Lib.hid ht
 have hxb : ((e : Int) == 2 * (em : Int) + 1) = false := by simp; omega
 have hyb : ((e : Int) == 0) = true := by simp; omega
 clear ht hz hT hp1 hp2 vp
 cases neg <;>
 ·go_enter Tryz.func124, Tryz.ntmps124
  go_wp2_with fail
  refine (cF _ HT.out).mono ?_
  rintro e' w1 ⟨rfl, hb1⟩
  go_wp2_with fail
  refine (cE _).mono ?_
  rintro e' w2 ⟨rfl, hb2⟩
  go_wp2
  go_ret
  have hs1 := hb1.size
  have hs2 := hb2.size
  simp at hs1 hs2
  exact ⟨rfl, ((((Below.refl w.heap.size w).alloc (Nat.le_refl _) (.cells #[.int .u64 (limb b 1), .int .u64 (limb b 0)] 27 (0, 0))).trans (hb1.mono (by simp))).alloc (by omega) (.cells (limbs t) 60 (0, 0))).trans (hb2.mono (by simp; omega))⟩
theorem kindClass_zer (f b e t em p : Nat) (neg qb : Bool) (w : World) (hem : em ≤ 16383) (hp1 : 11 ≤ p) (hp2 : p ≤ 113) (ht : t < top6) (hT : Tab w)
  (cF : CT_ 187 #[.int .u8 f, BV b] (.tuple #[.bool neg, .int .i64 (e : Nat), W t]))
  (cE : CK_ 142 #[.int .u8 f] (.int .i64 (em : Nat)))
  (cP : CK_ 79 #[.int .u8 f] (.int .i64 (p : Nat)))
  (hz : decide (t = 0) = true) (hx : ¬ (e : Int) = 2 * (em : Int) + 1) (hy : (e : Int) = 0) :
  CR_ 124 #[.int .u8 f, BV b] w (.int .u8 (cond neg (7 - 4) 4)) := by
 have eq0 := fun w => (run_equal_zero w t ht).trans (by rw [hz])
 have eq1 : ∀ w, (Op.equalIn 10000 60 (.agg (limbs t)) (.agg #[.int .u64 0, .int .u64 0, .int .u64 0, .int .u64 0, .int .u64 0, .int .u64 0])).run Tryz.prog w = .ok true w := eq0
 have vp : IntKind.i64.wrap ((p : Int) - 2) = ((p - 2 : Nat) : Int) := by rw [show (p : Int) - 2 = ((p - 2 : Nat) : Int) by omega]; exact IntWalk.i64_in _ (by omega)
 have HT := Lib.hid (hT.below ((Below.refl w.heap.size w).alloc (Nat.le_refl _) (.cells #[.int .u64 (limb b 1), .int .u64 (limb b 0)] 27 (0, 0))))
 have HA := Lib.hid ht
 have hxb : ((e : Int) == 2 * (em : Int) + 1) = false := by simp; omega
 have hyb : ((e : Int) == 0) = true := by simp; omega
 clear ht hz hT hp1 hp2 vp
 cases neg <;>
 ·go_enter Tryz.func124, Tryz.ntmps124
  go_wp2_with fail
  refine (cF _ HT.out).mono ?_
  rintro e' w1 ⟨rfl, hb1⟩
  go_wp2_with fail
  refine (cE _).mono ?_
  rintro e' w2 ⟨rfl, hb2⟩
  go_wp2
  go_ret
  have hs1 := hb1.size
  have hs2 := hb2.size
  simp at hs1 hs2
  exact ⟨rfl, ((((Below.refl w.heap.size w).alloc (Nat.le_refl _) (.cells #[.int .u64 (limb b 1), .int .u64 (limb b 0)] 27 (0, 0))).trans (hb1.mono (by simp))).alloc (by omega) (.cells (limbs t) 60 (0, 0))).trans (hb2.mono (by simp; omega))⟩
theorem u8_eq {x y : Int} {e : Ending} {P : Prop} (h : x = y) (k : e = .returned (.int .u8 x) ∧ P) : e = .returned (.int .u8 y) ∧ P := by rw [← h]; exact k
theorem kindclass_any (f b : Nat) (w : World) (hf : f < 4) (hb : b < 2 ^ (64 * 2)) (hT : Tab w) :
  CR_ 124 #[.int .u8 f, BV b] w (.int .u8 (clsN f b : Nat)) := by
 have cF := fun w hT => kindFields_any f b w hf hb hT
 have cE := fun w => shapeEmax_any f w (by omega)
 have cP := fun w => shapePrecision_any f w (by omega)
 obtain ⟨p1, p2, -, -, -, -⟩ := formB f hf
 have em := eF_le f
 have ht : b % 2 ^ (pF f - 1) < top6 := Nat.lt_of_le_of_lt (Nat.mod_le _ _) (lt_top_bits b hb)
 unfold clsN
 generalize b % 2 ^ (pF f - 1) = t at *
 generalize expN f b = e at *
 generalize b.testBit (wF f - 1) = neg at *
 generalize eF f = m at *
 generalize pF f = p at *
 by_cases hx : e = 2 * m + 1
 ·have hy : 0 < (e : Int) := by omega
  have hx' : (e : Int) = 2 * (m : Int) + 1 := by omega
  rw [if_pos hx]
  by_cases hz : t = 0
  ·rw [if_pos hz]
   exact (kindClass_inf f b e t m p neg false w em p1 p2 ht hT cF cE cP (decide_eq_true hz) hx' hy).mono fun e' w' h => u8_eq (by cases neg <;> rfl) h
  ·rw [if_neg hz]
   exact (kindClass_nan f b e t m p neg (t.testBit (p - 2)) w em p1 p2 ht hT cF cE cP (decide_eq_false hz) hx' hy rfl).mono fun e' w' h => u8_eq (by cases t.testBit (p - 2) <;> rfl) h
 ·have hx' : ¬ (e : Int) = 2 * (m : Int) + 1 := by omega
  rw [if_neg hx]
  by_cases hy : e = 0
  ·have hy' : (e : Int) = 0 := by omega
   rw [if_pos hy]
   by_cases hz : t = 0
   ·rw [if_pos hz]
    exact (kindClass_zer f b e t m p neg false w em p1 p2 ht hT cF cE cP (decide_eq_true hz) hx' hy').mono fun e' w' h => u8_eq (by cases neg <;> rfl) h
   ·rw [if_neg hz]
    exact (kindClass_sub f b e t m p neg false w em p1 p2 ht hT cF cE cP (decide_eq_false hz) hx' hy').mono fun e' w' h => u8_eq (by cases neg <;> rfl) h
  ·have hy' : 0 < (e : Int) := by omega
   rw [if_neg hy]
   by_cases hz : t = 0
   ·exact (kindClass_pow f b e t m p neg false w em p1 p2 ht hT cF cE cP (decide_eq_true hz) hx' hy').mono fun e' w' h => u8_eq (by cases neg <;> rfl) h
   ·exact (kindClass_nor f b e t m p neg false w em p1 p2 ht hT cF cE cP (decide_eq_false hz) hx' hy').mono fun e' w' h => u8_eq (by cases neg <;> rfl) h
def parts (c : Nat) (s : Nat) (x : Int) (f : Nat) : Array Value := #[.int .u8 c, .int .u64 (limb s 0), .int .u64 (limb s 1), .int .u64 (limb s 2), .int .u64 (limb s 3), .int .u64 (limb s 4), .int .u64 (limb s 5), .int .i64 x, .int .u64 (limb f 0), .int .u64 (limb f 1), .int .u64 (limb f 2), .int .u64 (limb f 3), .int .u64 (limb f 4), .int .u64 (limb f 5)]
abbrev PV (c s : Nat) (x : Int) (f : Nat) : Value := .agg (parts c s x f)
theorem limb_zero (i : Nat) : limb 0 i = 0 := by unfold limb limbN; rw [Nat.zero_div]; rfl
theorem parts_zero (c : Nat) : parts c 0 0 0 = #[.int .u8 c, .int .u64 0, .int .u64 0, .int .u64 0, .int .u64 0, .int .u64 0, .int .u64 0, .int .i64 0, .int .u64 0, .int .u64 0, .int .u64 0, .int .u64 0, .int .u64 0, .int .u64 0] := by
 unfold parts; simp only [limb_zero]
theorem Blk.p14 {T : TypeId} {w : World} {g c s : Nat} {x : Int} {f : Nat} (h : Blk T w g (parts c s x f)) :
  w.cell? ⟨g, 0, none⟩ = some (.int .u8 c) ∧ w.cell? ⟨g, 1, none⟩ = some (.int .u64 (limb s 0)) ∧ w.cell? ⟨g, 2, none⟩ = some (.int .u64 (limb s 1)) ∧ w.cell? ⟨g, 3, none⟩ = some (.int .u64 (limb s 2)) ∧ w.cell? ⟨g, 4, none⟩ = some (.int .u64 (limb s 3)) ∧ w.cell? ⟨g, 5, none⟩ = some (.int .u64 (limb s 4)) ∧ w.cell? ⟨g, 6, none⟩ = some (.int .u64 (limb s 5)) ∧ w.cell? ⟨g, 7, none⟩ = some (.int .i64 x) ∧ w.cell? ⟨g, 8, none⟩ = some (.int .u64 (limb f 0)) ∧ w.cell? ⟨g, 9, none⟩ = some (.int .u64 (limb f 1)) ∧ w.cell? ⟨g, 10, none⟩ = some (.int .u64 (limb f 2)) ∧ w.cell? ⟨g, 11, none⟩ = some (.int .u64 (limb f 3)) ∧ w.cell? ⟨g, 12, none⟩ = some (.int .u64 (limb f 4)) ∧ w.cell? ⟨g, 13, none⟩ = some (.int .u64 (limb f 5)) :=
 ⟨h.cell 0 rfl, h.cell 1 rfl, h.cell 2 rfl, h.cell 3 rfl, h.cell 4 rfl, h.cell 5 rfl, h.cell 6 rfl, h.cell 7 rfl, h.cell 8 rfl, h.cell 9 rfl, h.cell 10 rfl, h.cell 11 rfl, h.cell 12 rfl, h.cell 13 rfl⟩
theorem Blk.free14 {T : TypeId} {w : World} {g : Nat} {cs : Array Value} (h : Blk T w g cs) :
  w.frozen? ⟨g, 0, none⟩ = false ∧ w.frozen? ⟨g, 1, none⟩ = false ∧ w.frozen? ⟨g, 2, none⟩ = false ∧ w.frozen? ⟨g, 3, none⟩ = false ∧ w.frozen? ⟨g, 4, none⟩ = false ∧ w.frozen? ⟨g, 5, none⟩ = false ∧ w.frozen? ⟨g, 6, none⟩ = false ∧ w.frozen? ⟨g, 7, none⟩ = false ∧ w.frozen? ⟨g, 8, none⟩ = false ∧ w.frozen? ⟨g, 9, none⟩ = false ∧ w.frozen? ⟨g, 10, none⟩ = false ∧ w.frozen? ⟨g, 11, none⟩ = false ∧ w.frozen? ⟨g, 12, none⟩ = false ∧ w.frozen? ⟨g, 13, none⟩ = false :=
 ⟨h.free 0, h.free 1, h.free 2, h.free 3, h.free 4, h.free 5, h.free 6, h.free 7, h.free 8, h.free 9, h.free 10, h.free 11, h.free 12, h.free 13⟩
def put14 (w : World) (g c s : Nat) (x : Int) (f : Nat) : World := ((((((((((((((w.setCell ⟨g, 0, none⟩ (.int .u8 c)).setCell ⟨g, 1, none⟩ (.int .u64 (limb s 0))).setCell ⟨g, 2, none⟩ (.int .u64 (limb s 1))).setCell ⟨g, 3, none⟩ (.int .u64 (limb s 2))).setCell ⟨g, 4, none⟩ (.int .u64 (limb s 3))).setCell ⟨g, 5, none⟩ (.int .u64 (limb s 4))).setCell ⟨g, 6, none⟩ (.int .u64 (limb s 5))).setCell ⟨g, 7, none⟩ (.int .i64 x)).setCell ⟨g, 8, none⟩ (.int .u64 (limb f 0))).setCell ⟨g, 9, none⟩ (.int .u64 (limb f 1))).setCell ⟨g, 10, none⟩ (.int .u64 (limb f 2))).setCell ⟨g, 11, none⟩ (.int .u64 (limb f 3))).setCell ⟨g, 12, none⟩ (.int .u64 (limb f 4))).setCell ⟨g, 13, none⟩ (.int .u64 (limb f 5)))
theorem Blk.cast {T : TypeId} {w : World} {g : Nat} {cs cs' : Array Value} (h : Blk T w g cs) (e : cs = cs') : Blk T w g cs' := e ▸ h
theorem Blk.put14 {T : TypeId} {w : World} {g : Nat} {c0 s0 : Nat} {x0 : Int} {f0 : Nat} (h : Blk T w g (parts c0 s0 x0 f0)) (c s : Nat) (x : Int) (f : Nat) : Blk T (put14 w g c s x f) g (parts c s x f) := by
 unfold Go.Proofs.YtgmhmpflmgfcdaaGreatDoor.put14
 exact Blk.cast ((((((((((((((h.set 0 _ rfl).set 1 _ rfl).set 2 _ rfl).set 3 _ rfl).set 4 _ rfl).set 5 _ rfl).set 6 _ rfl).set 7 _ rfl).set 8 _ rfl).set 9 _ rfl).set 10 _ rfl).set 11 _ rfl).set 12 _ rfl).set 13 _ rfl) (by simp [parts])
theorem below_put14 {B : Nat} {w0 w : World} {g : Nat} (hb : Below B w0 w) (hg : B ≤ g) (c s : Nat) (x : Int) (f : Nat) : Below B w0 (put14 w g c s x f) := by
 unfold put14
 exact ((((((((((((((hb.setCell hg _).setCell hg _).setCell hg _).setCell hg _).setCell hg _).setCell hg _).setCell hg _).setCell hg _).setCell hg _).setCell hg _).setCell hg _).setCell hg _).setCell hg _).setCell hg _)
theorem kindUnpack_no (f b : Nat) (w : World)
  (cT : CK_ 92 #[.int .u8 f, BV b] (.bool false)) :
  CR_ 120 #[.int .u8 f, BV b] w (.tuple #[PV 0 0 0 0, .int .i64 2]) := by
 go_enter Tryz.func120, Tryz.ntmps120
 go_wp2_with fail
 refine (cT _).mono ?_
 rintro e' w1 ⟨rfl, hb1⟩
 have b4 : Blk 100 w1 (w.heap.size + 1) (parts 0 0 0 0) := by
  rw [parts_zero]
  have := (Blk.new (T := 100) (w.alloc (.cells #[.int .u64 (limb b 1), .int .u64 (limb b 0)] 27 (0, 0))) #[.int .u8 0, .int .u64 0, .int .u64 0, .int .u64 0, .int .u64 0, .int .u64 0, .int .u64 0, .int .i64 0, .int .u64 0, .int .u64 0, .int .u64 0, .int .u64 0, .int .u64 0, .int .u64 0]).below hb1 (by simp)
  simpa using this
 obtain ⟨d0, d1, d2, d3, d4, d5, d6, d7, d8, d9, d10, d11, d12, d13⟩ := b4.p14
 obtain ⟨n0, n1, n2, n3, n4, n5, n6, n7, n8, n9, n10, n11, n12, n13⟩ := b4.free14
 go_wp2_with fail
 have hb := below_put14 (((((Below.refl w.heap.size w).alloc (Nat.le_refl _) (.cells #[.int .u64 (limb b 1), .int .u64 (limb b 0)] 27 (0, 0))).alloc (by simp) (.cells #[.int .u8 0, .int .u64 0, .int .u64 0, .int .u64 0, .int .u64 0, .int .u64 0, .int .u64 0, .int .i64 0, .int .u64 0, .int .u64 0, .int .u64 0, .int .u64 0, .int .u64 0, .int .u64 0] 100 (0, 0))).trans (hb1.mono (by simp <;> omega)))) (by omega : w.heap.size ≤ w.heap.size + 1) 0 0 0 0
 unfold put14 at hb
 simp only [limb_zero] at hb
 exact bodyPost_ret (v := .tuple #[PV 0 0 0 0, .int .i64 2]) (by simp [results, Tryz.results120, go_sem, parts, limb_zero, d0, d1, d2, d3, d4, d5, d6, d7, d8, d9, d10, d11, d12, d13]) rfl ⟨rfl, hb⟩
def rough (neg : Bool) (s : Nat) (e : Int) (mo : Bool) : Array Value := #[.bool neg, .int .u64 (limb s 0), .int .u64 (limb s 1), .int .u64 (limb s 2), .int .u64 (limb s 3), .int .u64 (limb s 4), .int .u64 (limb s 5), .int .i64 e, .bool mo]
abbrev RV (neg : Bool) (s : Nat) (e : Int) (mo : Bool) : Value := .agg (rough neg s e mo)
theorem tW_s : (Tryz.prog.info? 60).map (·.size) = some 6 := by kernel_rfl
theorem tB_s : (Tryz.prog.info? 27).map (·.size) = some 2 := by kernel_rfl
theorem tP_s : (Tryz.prog.info? 100).map (·.size) = some 14 := by kernel_rfl
theorem tR_s : (Tryz.prog.info? 83).map (·.size) = some 9 := by kernel_rfl
theorem t3_s : (Tryz.prog.info? 101).map (·.size) = some 42 := by kernel_rfl
theorem tu_s : (Tryz.prog.info? 25).map (·.size) = some 1 := by kernel_rfl
theorem ti_s : (Tryz.prog.info? 3).map (·.size) = some 1 := by kernel_rfl
theorem tb_s : (Tryz.prog.info? 4).map (·.size) = some 1 := by kernel_rfl
theorem tc_s : (Tryz.prog.info? 65).map (·.size) = some 1 := by kernel_rfl
theorem tW_z : (Tryz.prog.info? 60).bind (·.zero) = some (W 0) := by rw [show W 0 = .agg (limbs 0) from rfl, limbs_zero]; kernel_rfl
theorem tB_z : (Tryz.prog.info? 27).bind (·.zero) = some (.agg #[.int .u64 0, .int .u64 0]) := by kernel_rfl
theorem tP_z : (Tryz.prog.info? 100).bind (·.zero) = some (PV 0 0 0 0) := by rw [show PV 0 0 0 0 = .agg (parts 0 0 0 0) from rfl, parts_zero]; kernel_rfl
theorem rough_zero : rough false 0 0 false = #[.bool false, .int .u64 0, .int .u64 0, .int .u64 0, .int .u64 0, .int .u64 0, .int .u64 0, .int .i64 0, .bool false] := by
 unfold rough; simp only [limb_zero]
theorem tR_z : (Tryz.prog.info? 83).bind (·.zero) = some (RV false 0 0 false) := by rw [show RV false 0 0 false = .agg (rough false 0 0 false) from rfl, rough_zero]; kernel_rfl
theorem ext_limbs (a : Nat) : (limbs a).extract 0 (0 + (limbs a).size) = limbs a := rfl
theorem ext_parts (c s : Nat) (x : Int) (f : Nat) : (parts c s x f).extract 0 (0 + (parts c s x f).size) = parts c s x f := rfl
theorem ext_parts_s (c s : Nat) (x : Int) (f : Nat) : (parts c s x f).extract 1 (1 + (limbs s).size) = limbs s := rfl
theorem ext_parts_f (c s : Nat) (x : Int) (f : Nat) : (parts c s x f).extract 8 (8 + (limbs f).size) = limbs f := rfl
theorem ext_rough (neg : Bool) (s : Nat) (e : Int) (mo : Bool) : (rough neg s e mo).extract 0 (0 + (rough neg s e mo).size) = rough neg s e mo := rfl
theorem ext_rough_s (neg : Bool) (s : Nat) (e : Int) (mo : Bool) : (rough neg s e mo).extract 1 (1 + (limbs s).size) = limbs s := rfl
theorem get_rough0 (neg : Bool) (s : Nat) (e : Int) (mo : Bool) : (rough neg s e mo)[0]? = some (.bool neg) := rfl
theorem get_rough7 (neg : Bool) (s : Nat) (e : Int) (mo : Bool) : (rough neg s e mo)[7]? = some (.int .i64 e) := rfl
theorem get_rough8 (neg : Bool) (s : Nat) (e : Int) (mo : Bool) : (rough neg s e mo)[8]? = some (.bool mo) := rfl
theorem get_parts0 (c s : Nat) (x : Int) (f : Nat) : (parts c s x f)[0]? = some (.int .u8 c) := rfl
theorem get_parts7 (c s : Nat) (x : Int) (f : Nat) : (parts c s x f)[7]? = some (.int .i64 x) := rfl
theorem one_of {vs : Array Value} (h : vs.toList.all (·.oneCell') = true) : vs.all (·.oneCell') = true := by rw [← Array.all_toList]; exact h
theorem setRow_get (vs : List Value) : ∀ (cs : Array Value) (o j : Nat), o + vs.length ≤ cs.size → (setRow cs o vs)[j]? = if j < o then cs[j]? else if j < o + vs.length then vs[j - o]? else cs[j]? := by
 induction vs with
 | nil => intro cs o j _; rw [setRow]; by_cases h : j < o <;> simp [h]
 | cons v r ih =>
  intro cs o j h
  rw [List.length_cons] at h
  rw [setRow, ih _ _ _ (by rw [Array.size_setIfInBounds]; omega), Array.getElem?_setIfInBounds, List.length_cons]
  by_cases h1 : j < o
  ·rw [if_pos (by omega), if_neg (by omega), if_pos h1]
  ·by_cases h2 : j = o
   ·subst h2
    rw [if_pos (by omega), if_pos rfl, if_pos (by omega), if_neg (by omega), if_pos (by omega), Nat.sub_self]; rfl
   ·rw [if_neg (by omega), if_neg h1]
    by_cases h3 : j < o + (r.length + 1)
    ·rw [if_pos (by omega), if_pos h3, show j - o = (j - (o + 1)) + 1 by omega]; rfl
    ·rw [if_neg (by omega), if_neg (by omega), if_neg h3]
theorem set_all (cs vs : Array Value) (h : cs.size = vs.size) : setRow cs 0 vs.toList = vs := by
 apply Array.ext_getElem?
 intro j
 rw [setRow_get _ _ _ _ (by simp [h]), if_neg (by omega)]
 by_cases hj : j < 0 + vs.toList.length
 ·rw [if_pos hj]; simp
 ·rw [if_neg hj, Array.getElem?_eq_none (by simp at hj; omega), Array.getElem?_eq_none (by simp at hj; omega)]
theorem set_zero6 (cs : Array Value) (h : cs.size = 6) : setRow cs 0 (#[.int .u64 0, .int .u64 0, .int .u64 0, .int .u64 0, .int .u64 0, .int .u64 0] : Array Value).toList = limbs 0 := by rw [limbs_zero]; exact set_all _ _ h
theorem set_parts_s (c s : Nat) (x : Int) (f s' : Nat) : setRow (parts c s x f) 1 (limbs s').toList = parts c s' x f := rfl
theorem set_parts_f (c s : Nat) (x : Int) (f f' : Nat) : setRow (parts c s x f) 8 (limbs f').toList = parts c s x f' := rfl
theorem set_parts_x (c s : Nat) (x : Int) (f : Nat) (x' : Int) : setRow (parts c s x f) 7 (#[.int .i64 x'] : Array Value).toList = parts c s x' f := rfl
theorem set_rough_s (neg : Bool) (s : Nat) (e : Int) (mo : Bool) (s' : Nat) : setRow (rough neg s e mo) 1 (limbs s').toList = rough neg s' e mo := rfl
theorem set_rough_n (neg : Bool) (s : Nat) (e : Int) (mo neg' : Bool) : setRow (rough neg s e mo) 0 (#[.bool neg'] : Array Value).toList = rough neg' s e mo := rfl
section
variable {P : Program} {w0 w : World} {L L' : List Bk} {op : Oper} {a : Act} {Q : Exit → Act → World → Prop} {ops : Array Oper} {S : World → Prop} {md : Region.Mode} {fuel : Nat} {listed : Array Bool}
theorem Own.held (H : Own w0 w L) {id : Nat} (hm : P.follows .mixedOrders = true) (L' : List Bk) (h : Own w0 w.drew L → wpAnyH P .any ops Q (fun w' => Own w0 w' L') ops.size (Array.replicate ops.size false) a w.drew) :
  (Code.region id ops true).wp P Q a w := wp_region_held hm (h H.drew)
theorem Own.heldSub (H : Own w0 w L) {id : Nat} (hm : P.follows .mixedOrders = true) {L' : List Bk} (_hL : List.Sublist L' L) (h : Own w0 w.drew L → wpAnyH P .any ops Q (fun w' => Own w0 w' L') ops.size (Array.replicate ops.size false) a w.drew) :
  (Code.region id ops true).wp P Q a w := wp_region_held hm (h H.drew)
theorem Own.takeRun (H : Own w0 w L) (hL : List.Sublist L' L) (i : Nat) (hi : ops[i]? = some op) (hs : Region.noSelect ops = true) (hf : Region.free md ops listed i = true) (hr : (Region.ready md ops listed).contains i = true)
  (hQ : ∀ v c a w, Q (.panic c) (a.put op.dst v) w → Q (.panic c) a w) (hw : Region.wanted op (yielded ops a.tmps) = true) {v : Value} (hv : ∀ w, (execOp a.eval op).run P w = .ok (.value v) w)
  (h : wpAnyH P md ops Q (fun w' => Own w0 w' L') fuel (listed.setIfInBounds i true) (a.put op.dst v) w) : wpAnyH P md ops Q (fun w' => Own w0 w' L') (fuel + 1) listed a w :=
 wpAnyH_take hi hs hf hr (hQ v) (yields_run hw hv) (H.sub hL) h
theorem Own.takeLoad (H : Own w0 w L) (hL : List.Sublist L' L) (i : Nat) (hi : ops[i]? = some op) (hs : Region.noSelect ops = true) (hf : Region.free md ops listed i = true) (hr : (Region.ready md ops listed).contains i = true)
  (hQ : ∀ v c a w, Q (.panic c) (a.put op.dst v) w → Q (.panic c) a w) (hw : Region.wanted op (yielded ops a.tmps) = true)
  {ty : TypeId} {x : Operand} (ho : op.op = .load ty x) {g o : Nat} (hx : a.eval x = .pointer (some ⟨g, o, none⟩))
  (j : Nat) {T : TypeId} {cs : Array Value} (hj : L'[j]? = some (g, T, cs)) {d : TypeDesc} (hu : P.underlying ty = some d) (hd : d.isRow = true) {v : Array Value} (hv : cs.extract o (o + v.size) = v) (hz : (P.info? ty).map (·.size) = some v.size)
  (h : wpAnyH P md ops Q (fun w' => Own w0 w' L') fuel (listed.setIfInBounds i true) (a.put op.dst (.agg v)) w) : wpAnyH P md ops Q (fun w' => Own w0 w' L') (fuel + 1) listed a w :=
 wpAnyH_take hi hs hf hr (hQ _) (yields_load (fun _ h => h) hw ho hx j hj hu hd hz hv) (H.sub hL) h
theorem Own.takeLoad1 (H : Own w0 w L) (hL : List.Sublist L' L) (i : Nat) (hi : ops[i]? = some op) (hs : Region.noSelect ops = true) (hf : Region.free md ops listed i = true) (hr : (Region.ready md ops listed).contains i = true)
  (hQ : ∀ v c a w, Q (.panic c) (a.put op.dst v) w → Q (.panic c) a w) (hw : Region.wanted op (yielded ops a.tmps) = true)
  {ty : TypeId} {x : Operand} (ho : op.op = .load ty x) {g o : Nat} (hx : a.eval x = .pointer (some ⟨g, o, none⟩))
  (j : Nat) {T : TypeId} {cs : Array Value} (hj : L'[j]? = some (g, T, cs)) {d : TypeDesc} (hu : P.underlying ty = some d) (hd : d.isRow = false) {v : Value} (hv : cs[o]? = some v)
  (h : wpAnyH P md ops Q (fun w' => Own w0 w' L') fuel (listed.setIfInBounds i true) (a.put op.dst v) w) : wpAnyH P md ops Q (fun w' => Own w0 w' L') (fuel + 1) listed a w :=
 wpAnyH_take hi hs hf hr (hQ _) (yields_load1 (fun _ h => h) hw ho hx j hj hu hd hv) (H.sub hL) h
end
inductive Upd (g : Nat) (T : TypeId) (cs cs' : Array Value) : List Bk → List Bk → Prop
 | head (L : List Bk) : Upd g T cs cs' ((g, T, cs) :: L) ((g, T, cs') :: L)
 | tail {L L' : List Bk} (x : Bk) (h : Upd g T cs cs' L L') : Upd g T cs cs' (x :: L) (x :: L')
theorem Upd.place {g : Nat} {T : TypeId} {cs cs' : Array Value} {L L' : List Bk} (h : Upd g T cs cs' L L') : ∃ i, L[i]? = some (g, T, cs) ∧ L' = L.set i (g, T, cs') := by
 induction h with
 | head L => exact ⟨0, rfl, rfl⟩
 | tail x h ih =>
  obtain ⟨i, h1, h2⟩ := ih
  exact ⟨i + 1, by rw [List.getElem?_cons_succ]; exact h1, by rw [h2]; rfl⟩
theorem place_of_mem {L : List Bk} {x : Bk} (h : x ∈ L) : ∃ i : Nat, L[i]? = some x := by
 obtain ⟨i, hi, rfl⟩ := List.mem_iff_getElem.1 h
 exact ⟨i, List.getElem?_eq_getElem hi⟩
structure IsRow (P : Program) (t : TypeId) (n : Nat) (z : Array Value) : Prop where
 row : ∃ d, P.underlying t = some d ∧ d.isRow = true
 size : (P.info? t).map (·.size) = some n
 zero : (P.info? t).bind (·.zero) = some (.agg z)
structure IsOne (P : Program) (t : TypeId) : Prop where
 one : ∃ d, P.underlying t = some d ∧ d.isRow = false
 size : (P.info? t).map (·.size) = some 1
section
variable {P : Program} {w0 w : World} {L L' : List Bk} {op : Oper} {a : Act} {Q : Exit → Act → World → Prop} {ops : Array Oper} {rest : List Oper} {K : Act → World → Prop}
theorem Own.mk0 (H : Own w0 w L) (hw : Region.wanted op (yielded ops a.tmps) = true) {t : TypeId} {n : Nat} {z : Array Value} (R : IsRow P t n z) (ho : op.op = .alloc t)
  (h : ∀ g w', Own w0 w' ((g, t, z) :: L) → wpList P ops Q rest (a.put op.dst (.pointer (some ⟨g, 0, none⟩))) w') : wpList P ops Q (op :: rest) a w :=
 H.new hw ho R.zero rfl h
theorem Own.ld (H : Own w0 w L) (hw : Region.wanted op (yielded ops a.tmps) = true) {t : TypeId} {n : Nat} {z : Array Value} (R : IsRow P t n z) {x : Operand} (ho : op.op = .load t x) {g o : Nat} (hx : a.eval x = .pointer (some ⟨g, o, none⟩))
  {T : TypeId} {cs : Array Value} (hi : (g, T, cs) ∈ L) {v : Array Value} (hv : cs.extract o (o + v.size) = v) (hs : v.size = n) (h : wpList P ops Q rest (a.put op.dst (.agg v)) w) : wpList P ops Q (op :: rest) a w := by
 obtain ⟨i, hi⟩ := place_of_mem hi
 obtain ⟨d, hu, hd⟩ := R.row
 exact H.load hw ho hx i hi hu hd hv (by rw [R.size, hs]) h
theorem Own.ld1 (H : Own w0 w L) (hw : Region.wanted op (yielded ops a.tmps) = true) {t : TypeId} (R : IsOne P t) {x : Operand} (ho : op.op = .load t x) {g o : Nat} (hx : a.eval x = .pointer (some ⟨g, o, none⟩))
  {T : TypeId} {cs : Array Value} (hi : (g, T, cs) ∈ L) {v : Value} (hv : cs[o]? = some v) (h : wpList P ops Q rest (a.put op.dst v) w) : wpList P ops Q (op :: rest) a w := by
 obtain ⟨i, hi⟩ := place_of_mem hi
 obtain ⟨d, hu, hd⟩ := R.one
 exact H.load1 hw ho hx i hi hu hd hv h
theorem Own.st (H : Own w0 w L) (hw : Region.wanted op (yielded ops a.tmps) = true) {t : TypeId} {n : Nat} {z : Array Value} (R : IsRow P t n z) {x y : Operand} (ho : op.op = .store t x y) {g o : Nat} (hx : a.eval x = .pointer (some ⟨g, o, none⟩))
  {vs : Array Value} (hy : (a.eval y).cells = vs) {T : TypeId} {cs cs' : Array Value} (hi : Upd g T cs cs' L L') (hv : setRow cs o vs.toList = cs') (hs : vs.size = n) (h1 : vs.all (·.oneCell') = true) (hn : o + vs.size ≤ cs.size)
  (h : ∀ w', Own w0 w' L' → wpList P ops Q rest (a.put op.dst undef) w') : wpList P ops Q (op :: rest) a w := by
 obtain ⟨i, hj, rfl⟩ := hi.place
 exact H.store hw ho hx hy i hj hv (by rw [R.size, hs]) h1 hn h
theorem Own.st1 (H : Own w0 w L) (hw : Region.wanted op (yielded ops a.tmps) = true) {t : TypeId} (R : IsOne P t) {x y : Operand} (ho : op.op = .store t x y) {g o : Nat} (hx : a.eval x = .pointer (some ⟨g, o, none⟩))
  {vs : Array Value} (hy : (a.eval y).cells = vs) {T : TypeId} {cs cs' : Array Value} (hi : Upd g T cs cs' L L') (hv : setRow cs o vs.toList = cs') (hs : vs.size = 1) (h1 : vs.all (·.oneCell') = true) (hn : o + vs.size ≤ cs.size)
  (h : ∀ w', Own w0 w' L' → wpList P ops Q rest (a.put op.dst undef) w') : wpList P ops Q (op :: rest) a w := by
 obtain ⟨i, hj, rfl⟩ := hi.place
 exact H.store hw ho hx hy i hj hv (by rw [R.size, hs]) h1 hn h
theorem Own.old (H : Own w0 w L) {t : TypeId} {n : Nat} {z : Array Value} (R : IsRow P t n z) {x : Operand} (ho : op.op = .load t x) {g o : Nat} (hx : a.eval x = .pointer (some ⟨g, o, none⟩))
  {T : TypeId} {cs : Array Value} (hi : (g, T, cs) ∈ L) {v : Array Value} (hv : cs.extract o (o + v.size) = v) (hs : v.size = n) (h : K (a.put op.dst (.agg v)) w) : op.wp P a w K Q := by
 obtain ⟨i, hi⟩ := place_of_mem hi
 obtain ⟨d, hu, hd⟩ := R.row
 exact H.op_load ho hx i hi hu hd hv (by rw [R.size, hs]) h
theorem Own.old1 (H : Own w0 w L) {t : TypeId} (R : IsOne P t) {x : Operand} (ho : op.op = .load t x) {g o : Nat} (hx : a.eval x = .pointer (some ⟨g, o, none⟩))
  {T : TypeId} {cs : Array Value} (hi : (g, T, cs) ∈ L) {v : Value} (hv : cs[o]? = some v) (h : K (a.put op.dst v) w) : op.wp P a w K Q := by
 obtain ⟨i, hi⟩ := place_of_mem hi
 obtain ⟨d, hu, hd⟩ := R.one
 exact H.op_load1 ho hx i hi hu hd hv h
theorem Own.ost (H : Own w0 w L) {t : TypeId} {n : Nat} {z : Array Value} (R : IsRow P t n z) {x y : Operand} (ho : op.op = .store t x y) {g o : Nat} (hx : a.eval x = .pointer (some ⟨g, o, none⟩))
  {vs : Array Value} (hy : (a.eval y).cells = vs) {T : TypeId} {cs cs' : Array Value} (hi : Upd g T cs cs' L L') (hv : setRow cs o vs.toList = cs') (hs : vs.size = n) (h1 : vs.all (·.oneCell') = true) (hn : o + vs.size ≤ cs.size)
  (h : ∀ w', Own w0 w' L' → K (a.put op.dst undef) w') : op.wp P a w K Q := by
 obtain ⟨i, hj, rfl⟩ := hi.place
 exact H.op_store ho hx hy i hj hv (by rw [R.size, hs]) h1 hn h
theorem Own.ost1 (H : Own w0 w L) {t : TypeId} (R : IsOne P t) {x y : Operand} (ho : op.op = .store t x y) {g o : Nat} (hx : a.eval x = .pointer (some ⟨g, o, none⟩))
  {vs : Array Value} (hy : (a.eval y).cells = vs) {T : TypeId} {cs cs' : Array Value} (hi : Upd g T cs cs' L L') (hv : setRow cs o vs.toList = cs') (hs : vs.size = 1) (h1 : vs.all (·.oneCell') = true) (hn : o + vs.size ≤ cs.size)
  (h : ∀ w', Own w0 w' L' → K (a.put op.dst undef) w') : op.wp P a w K Q := by
 obtain ⟨i, hj, rfl⟩ := hi.place
 exact H.op_store ho hx hy i hj hv (by rw [R.size, hs]) h1 hn h
variable {md : Region.Mode} {fuel : Nat} {listed : Array Bool}
theorem Own.tk (H : Own w0 w L) (hL : List.Sublist L' L) (i : Nat) (hi : ops[i]? = some op) (hs : Region.noSelect ops = true) (hf : Region.free md ops listed i = true) (hr : (Region.ready md ops listed).contains i = true)
  (hQ : ∀ v c a w, Q (.panic c) (a.put op.dst v) w → Q (.panic c) a w) (hw : Region.wanted op (yielded ops a.tmps) = true)
  {t : TypeId} {n : Nat} {z : Array Value} (R : IsRow P t n z) {x : Operand} (ho : op.op = .load t x) {g o : Nat} (hx : a.eval x = .pointer (some ⟨g, o, none⟩))
  {T : TypeId} {cs : Array Value} (hj : (g, T, cs) ∈ L') {v : Array Value} (hv : cs.extract o (o + v.size) = v) (hz : v.size = n)
  (h : wpAnyH P md ops Q (fun w' => Own w0 w' L') fuel (listed.setIfInBounds i true) (a.put op.dst (.agg v)) w) : wpAnyH P md ops Q (fun w' => Own w0 w' L') (fuel + 1) listed a w := by
 obtain ⟨j, hj⟩ := place_of_mem hj
 obtain ⟨d, hu, hd⟩ := R.row
 exact H.takeLoad hL i hi hs hf hr hQ hw ho hx j hj hu hd hv (by rw [R.size, hz]) h
theorem Own.tk1 (H : Own w0 w L) (hL : List.Sublist L' L) (i : Nat) (hi : ops[i]? = some op) (hs : Region.noSelect ops = true) (hf : Region.free md ops listed i = true) (hr : (Region.ready md ops listed).contains i = true)
  (hQ : ∀ v c a w, Q (.panic c) (a.put op.dst v) w → Q (.panic c) a w) (hw : Region.wanted op (yielded ops a.tmps) = true)
  {t : TypeId} (R : IsOne P t) {x : Operand} (ho : op.op = .load t x) {g o : Nat} (hx : a.eval x = .pointer (some ⟨g, o, none⟩))
  {T : TypeId} {cs : Array Value} (hj : (g, T, cs) ∈ L') {v : Value} (hv : cs[o]? = some v)
  (h : wpAnyH P md ops Q (fun w' => Own w0 w' L') fuel (listed.setIfInBounds i true) (a.put op.dst v) w) : wpAnyH P md ops Q (fun w' => Own w0 w' L') (fuel + 1) listed a w := by
 obtain ⟨j, hj⟩ := place_of_mem hj
 obtain ⟨d, hu, hd⟩ := R.one
 exact H.takeLoad1 hL i hi hs hf hr hQ hw ho hx j hj hu hd hv h
theorem Own.res (H : Own w0 w L) {t : TypeId} {n : Nat} {z : Array Value} (R : IsRow P t n z) {g o : Nat} {T : TypeId} {cs : Array Value} (hi : (g, T, cs) ∈ L) {v : Array Value} (hv : cs.extract o (o + v.size) = v) (hs : v.size = n) :
  (loadVar t ⟨g, o, none⟩).run P w = .ok (.agg v) w := by
 obtain ⟨i, hi⟩ := place_of_mem hi
 obtain ⟨d, hu, hd⟩ := R.row
 exact H.result i hi hu hd (by rw [R.size, hs]) hv
end
section
variable {P : Program} {w0 w : World} {L L' : List Bk} {op : Oper} {a : Act} {Q : Exit → Act → World → Prop} {ops : Array Oper} {rest : List Oper} {K : Act → World → Prop}
theorem Own.was (H : Own w0 w L) {T : TypeId} {g : Nat} {cs : Array Value} (hb : Blk T w0 g cs) : Blk T w g cs := hb.below H.below hb.lt
theorem Own.ldo (H : Own w0 w L) (hw : Region.wanted op (yielded ops a.tmps) = true) {t : TypeId} {n : Nat} {z : Array Value} (R : IsRow P t n z) {x : Operand} (ho : op.op = .load t x) {g o : Nat} (hx : a.eval x = .pointer (some ⟨g, o, none⟩))
  {T : TypeId} {cs : Array Value} (hb : Blk T w0 g cs) {v : Array Value} (hv : cs.extract o (o + v.size) = v) (hs : v.size = n) (h : wpList P ops Q rest (a.put op.dst (.agg v)) w) : wpList P ops Q (op :: rest) a w := by
 obtain ⟨d, hu, hd⟩ := R.row
 have hr : w.rangeAt g o v.toList := by
  have := World.rangeAt_of_block (H.was hb) o v.size
  rw [hv] at this; exact this
 exact wp_wanted hw fun _ hK => wp_load_mid (P := P) t x ho g o hx v.toList d hr hu hd (by rw [R.size, ← hs]; simp) (hK _ _ (by simpa using h))
theorem Own.oal (H : Own w0 w L) {t : TypeId} {n : Nat} {z : Array Value} (R : IsRow P t n z) (ho : op.op = .alloc t)
  (h : ∀ g w', Own w0 w' ((g, t, z) :: L) → K (a.put op.dst (.pointer (some ⟨g, 0, none⟩))) w') : op.wp P a w K Q :=
 H.op_alloc ho R.zero rfl h
theorem foldl_set (vs : List Value) : ∀ (k off : Nat) (cs : Array Value), (vs.zipIdx k).foldl (fun cs (c : Value × Nat) => cs.setIfInBounds (off + c.2) c.1) cs = setRow cs (off + k) vs := by
 induction vs with
 | nil => intro k off cs; rfl
 | cons v r ih =>
  intro k off cs
  rw [List.zipIdx_cons, List.foldl_cons, ih, setRow]; rfl
theorem foldl_cells (v : Value) (off : Nat) (cs : Array Value) : v.cells.zipIdx.foldl (fun cs (c, j) => cs.setIfInBounds (off + j) c) cs = setRow cs off v.cells.toList := by
 have := foldl_set v.cells.toList 0 off cs
 rw [Nat.add_zero] at this
 rw [← this, ← Array.foldl_toList, Array.toList_zipIdx]
theorem fill_one (n : Nat) (base : Array Value) (i : Nat) (v : Value) (rest : List (Nat × Value)) (h1 : v.cells.size = n) (h2 : i * n + n ≤ base.size) :
  Instr.fill (fun i => some (i * n, n)) base ((i, v) :: rest) = Instr.fill (fun i => some (i * n, n)) (setRow base (i * n) v.cells.toList) rest := by
 rw [Instr.fill]
 simp only []
 rw [if_neg (by simp [h1]; omega), foldl_cells]
theorem run_buildSlice {w : World} {t e : TypeId} {n len : Nat} {z : Array Value} (hu : P.underlying t = some (.slice e)) (R : IsRow P e n z) (hn : len * n ≤ 16777216) (h0 : (len * n == 0) = false) (parts : Array (Nat × Value)) (cs : Array Value)
  (hf : Instr.fill (fun i => some (i * n, n)) ((Array.range (len * n)).map (z[· % z.size]!)) parts.toList = some cs) :
  (Instr.buildSlice t len parts).run P w = .ok (.slice (some ⟨w.heap.size, 0, none⟩) len len) (w.alloc (.cells cs e (0, 0))) := by
 have hz := run_zeroValue R.zero w
 obtain ⟨inf, hi, hs⟩ : ∃ inf, P.info? e = some inf ∧ inf.size = n := by
  have := R.size
  cases hq : P.info? e with
  | none => simp [hq] at this
  | some inf => exact ⟨inf, rfl, by simpa [hq] using this⟩
 have hsz : (sizeOf e).run P w = .ok n w := by simp [sizeOf, typeInfo, Sem.run_bind, hi, hs]
 unfold Instr.buildSlice
 simp only [Sem.run_bind, run_underlying hu, Result.andThen_ok, hsz]
 rw [if_neg (by omega)]
 have h1 : ¬ len * n = 0 := by simpa using h0
 simp only [Sem.run_bind, Sem.run_pure, Result.andThen_ok, if_neg h1, hz, hf, Value.cells]
 rfl
theorem Own.bs (H : Own w0 w L) (hw : Region.wanted op (yielded ops a.tmps) = true) {t e : TypeId} {n len : Nat} {z : Array Value} {ps : Array (Nat × Operand)} (hu : P.underlying t = some (.slice e)) (R : IsRow P e n z) (ho : op.op = .buildSlice t len ps)
  (hn : len * n ≤ 16777216) (h0 : (len * n == 0) = false) {cs : Array Value} (hf : Instr.fill (fun i => some (i * n, n)) ((Array.range (len * n)).map (z[· % z.size]!)) (ps.map fun (i, x) => (i, a.eval x)).toList = some cs)
  (h : ∀ g w', Own w0 w' ((g, e, cs) :: L) → wpList P ops Q rest (a.put op.dst (.slice (some ⟨g, 0, none⟩) len len)) w') : wpList P ops Q (op :: rest) a w := by
 refine wp_wanted hw fun K hK => ?_
 have hk := hK _ _ (h _ _ (H.alloc e cs))
 unfold Oper.wp execOp
 simp only [ho, Sem.run_bind, run_buildSlice hu R hn h0 _ cs hf, Result.andThen_ok]
 exact hk
theorem size_row (vs : List Value) (cs : Array Value) (o : Nat) : (setRow cs o vs).size = cs.size := setRow_size vs cs o
theorem setRow_at (cs : Array Value) (o : Nat) (v : Array Value) (j : Nat) (h : o + v.size ≤ cs.size) : (setRow cs o v.toList)[j]? = if j < o then cs[j]? else if j < o + v.size then v[j - o]? else cs[j]? := by
 have : ∀ (vs : List Value) (cs : Array Value) (o j : Nat), o + vs.length ≤ cs.size → (setRow cs o vs)[j]? = if j < o then cs[j]? else if j < o + vs.length then vs[j - o]? else cs[j]? := by
  intro vs
  induction vs with
  | nil => intro cs o j _; rw [setRow]; by_cases h : j < o <;> simp [h]
  | cons v r ih =>
   intro cs o j h
   rw [List.length_cons] at h
   rw [setRow, ih _ _ _ (by rw [Array.size_setIfInBounds]; omega), Array.getElem?_setIfInBounds, List.length_cons]
   by_cases h1 : j < o
   ·rw [if_pos (by omega), if_neg (by omega), if_pos h1]
   ·by_cases h2 : j = o
    ·subst h2
     rw [if_pos (by omega), if_pos rfl, if_pos (by omega), if_neg (by omega), if_pos (by omega), Nat.sub_self]; rfl
    ·rw [if_neg (by omega), if_neg h1]
     by_cases h3 : j < o + (r.length + 1)
     ·rw [if_pos (by omega), if_pos h3, show j - o = (j - (o + 1)) + 1 by omega]; rfl
     ·rw [if_neg (by omega), if_neg (by omega), if_neg h3]
 have h2 := this v.toList cs o j (by simpa using h)
 simpa using h2
theorem fill3 (n : Nat) (v1 v2 v3 base : Array Value) (h1 : v1.size = n) (h2 : v2.size = n) (h3 : v3.size = n) (hb : base.size = 3 * n) : Instr.fill (fun i => some (i * n, n)) base [(0, .agg v1), (1, .agg v2), (2, .agg v3)] = some (v1 ++ v2 ++ v3) := by
 rw [fill_one n base 0 (.agg v1) _ h1 (by omega), fill_one n _ 1 (.agg v2) _ h2 (by rw [size_row]; omega), fill_one n _ 2 (.agg v3) _ h3 (by rw [size_row, size_row]; omega), Instr.fill]
 congr 1
 apply Array.ext_getElem?
 intro j
 show (setRow (setRow (setRow base (0 * n) v1.toList) (1 * n) v2.toList) (2 * n) v3.toList)[j]? = _
 rw [setRow_at _ _ _ _ (by rw [size_row, size_row]; omega), setRow_at _ _ _ _ (by rw [size_row]; omega), setRow_at _ _ _ _ (by omega), Nat.zero_mul, Nat.one_mul, Array.getElem?_append, Array.getElem?_append, Array.size_append, h1, h2]
 by_cases hj : j < n
 ·rw [if_pos (by omega), if_pos hj, if_neg (by omega), if_pos (by omega), if_pos (by omega), if_pos hj]; rfl
 ·by_cases hk : j < n + n
  ·rw [if_pos (by omega), if_neg hj, if_pos (by omega), if_pos hk, if_neg hj]
  ·rw [if_neg (by omega), if_neg hk]
   by_cases hl : j < 2 * n + v3.size
   ·rw [if_pos hl, if_neg (by omega), show j - 2 * n = j - (n + n) by omega]
   ·have e1 : base[j]? = none := Array.getElem?_eq_none (by omega)
    have e2 : v1[j]? = none := Array.getElem?_eq_none (by omega)
    have e3 : v2[j - n]? = none := Array.getElem?_eq_none (by omega)
    have e4 : v3[j - (n + n)]? = none := Array.getElem?_eq_none (by omega)
    rw [if_neg hl, e1, e2, e3, e4]; simp; try omega
theorem base_size (k : Nat) (z : Array Value) : ((Array.range k).map (z[· % z.size]!)).size = k := by simp
def cat3 (u v x : Array Value) : Array Value := u ++ v ++ x
theorem Own.bs3 (H : Own w0 w L) (hw : Region.wanted op (yielded ops a.tmps) = true) {t e : TypeId} {n : Nat} {z : Array Value} {x y u : Operand} (hu : P.underlying t = some (.slice e)) (R : IsRow P e n z) (ho : op.op = .buildSlice t 3 #[(0, x), (1, y), (2, u)])
  {v1 v2 v3 : Array Value} (h1 : a.eval x = .agg v1) (h2 : a.eval y = .agg v2) (h3 : a.eval u = .agg v3) (s1 : v1.size = n) (s2 : v2.size = n) (s3 : v3.size = n) (hn : 3 * n ≤ 16777216) (h0 : (3 * n == 0) = false)
  (h : ∀ g w', Own w0 w' ((g, e, cat3 v1 v2 v3) :: L) → wpList P ops Q rest (a.put op.dst (.slice (some ⟨g, 0, none⟩) 3 3)) w') : wpList P ops Q (op :: rest) a w :=
 H.bs hw hu R ho hn h0 (by rw [show (Array.map (fun (p : Nat × Operand) => (p.1, a.eval p.2)) #[(0, x), (1, y), (2, u)]).toList = [(0, .agg v1), (1, .agg v2), (2, .agg v3)] by simp [h1, h2, h3]]; exact fill3 n v1 v2 v3 _ s1 s2 s3 (base_size _ _)) h
end
theorem app2_1 (u v : Array Value) {n : Nat} (h : u.size = n) : (u ++ v).extract n (n + v.size) = v := by subst h; simp
theorem app3_0 (u v x : Array Value) : (u ++ v ++ x).extract 0 (0 + u.size) = u := by simp
theorem app3_1 (u v x : Array Value) {n : Nat} (h : u.size = n) : (u ++ v ++ x).extract n (n + v.size) = v := by subst h; simp
theorem app3_2 (u v x : Array Value) {n : Nat} (h : u.size + v.size = n) : (u ++ v ++ x).extract n (n + x.size) = x := app2_1 (u ++ v) x (by rw [Array.size_append]; exact h)
theorem cat3_0 (u v x : Array Value) : (cat3 u v x).extract 0 (0 + u.size) = u := app3_0 u v x
theorem cat3_1 (u v x : Array Value) {n : Nat} (h : u.size = n) : (cat3 u v x).extract n (n + v.size) = v := app3_1 u v x h
theorem cat3_2 (u v x : Array Value) {n : Nat} (h : u.size + v.size = n) : (cat3 u v x).extract n (n + x.size) = x := app3_2 u v x h
end Go.Proofs.YtgmhmpflmgfcdaaGreatDoor
