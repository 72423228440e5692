/- Part 4 of the proof. -/
import Derived.Deep.RegionWith
import Derived.RegionTactic
import Derived.Outline
import Derived.BigQuiet
import Derived.Deep.QuietTactic
import Derived.Deep.RegionHeld3
import Derived.Deep.Cut
import Derived.Test.YtgmhmpflmgfcdaaGreatDoorHm2
import Derived.Test.YtgmhmpflmgfcdaaGreatDoorHm3
set_option linter.unusedSimpArgs false
set_option linter.unusedVariables false
set_option linter.unnecessarySimpa false
set_option maxRecDepth 100000
set_option maxHeartbeats 3200000
namespace Go.Proofs.YtgmhmpflmgfcdaaGreatDoor
open Go.RowKit
theorem limbN_right (a q s i : Nat) (hs : s ≤ 64) : limbN (a / 2 ^ (64 * q + s)) i = limbN a (i + q + 1) * 2 ^ (64 - s) % 18446744073709551616 + limbN a (i + q) / 2 ^ s := by
 have e : a / 2 ^ (64 * q + s) / 2 ^ (64 * i) = a / 2 ^ (64 * (i + q)) / 2 ^ s := by
  rw [Nat.div_div_eq_div_mul, Nat.div_div_eq_div_mul, ← Nat.pow_add, ← Nat.pow_add]
  congr 2; omega
 unfold limbN
 rw [e, cat_word _ s hs, Nat.div_div_eq_div_mul, show 64 * (i + q + 1) = 64 * (i + q) + 64 by omega, Nat.pow_add, ← B64]
theorem pw_mono (j i : Nat) (h : j ≤ i) : 2 ^ (64 * j) ≤ 2 ^ (64 * i) := Nat.pow_le_pow_right (by decide) (Nat.mul_le_mul_left 64 h)
theorem high_zero (a i : Nat) (h : a < top6) (hi : 6 ≤ i) : limbN a i = 0 := by
 unfold top6 at h
 unfold limbN
 rw [Nat.div_eq_of_lt (Nat.lt_of_lt_of_le h (pw_mono 6 i hi))]
theorem limb_shr (a i s : Nat) : limb a i / 2 ^ s = ((limbN a i / 2 ^ s : Nat) : Int) := by unfold limb; simp
theorem right_or (a q s i : Nat) (hs : s < 64) (h : i + q < 5) :
  Go.bits .or .u64 (limb a (i + q) / 2 ^ s) (IntKind.u64.wrap (limb a (i + q + 1) * 2 ^ (64 - s))) = limb (a / 2 ^ (64 * q + s)) i := by
 have h1 : IntKind.u64.wrap (limb a (i + q + 1) * 2 ^ (64 - s)) = ((limbN a (i + q + 1) * 2 ^ (64 - s) % 18446744073709551616 : Nat) : Int) := by
  rw [IntKind.wrap_u64]; unfold limb; simp
 have h2 : limbN a (i + q) / 2 ^ s < 2 ^ (64 - s) := by
  rw [Nat.div_lt_iff_lt_mul (Nat.two_pow_pos s), ← Nat.pow_add, show 64 - s + s = 64 by omega, ← B64]; exact limbN_lt _ _
 have h3 : limbN a (i + q) / 2 ^ s < 18446744073709551616 := Nat.lt_of_le_of_lt (Nat.div_le_self _ _) (limbN_lt _ _)
 have h4 : limbN a (i + q + 1) * 2 ^ (64 - s) % 18446744073709551616 < 18446744073709551616 := Nat.mod_lt _ (by decide)
 have h5 : limbN a (i + q + 1) * 2 ^ (64 - s) % 18446744073709551616 % 2 ^ (64 - s) = 0 := by
  rw [show (18446744073709551616 : Nat) = 2 ^ (64 - s) * 2 ^ s by rw [← Nat.pow_add, show 64 - s + s = 64 by omega], Nat.mod_mul_right_mod, Nat.mul_mod_left]
 rw [limb_shr, h1, u64_or_nat _ _ h3 h4, Nat.or_comm, nat_join (64 - s) _ _ h5 h2]
 unfold limb
 rw [limbN_right a q s i (by omega)]
theorem right_last (a q s i : Nat) (hs : s < 64) (ha : a < top6) (h : i + q = 5) : limb a (i + q) / 2 ^ s = limb (a / 2 ^ (64 * q + s)) i := by
 rw [limb_shr]
 unfold limb
 rw [limbN_right a q s i (by omega), high_zero a (i + q + 1) ha (by omega)]
 simp
theorem right_zero (a q s i : Nat) (hs : s < 64) (ha : a < top6) (h : 6 ≤ i + q) : limb (a / 2 ^ (64 * q + s)) i = 0 := by
 unfold limb
 rw [limbN_right a q s i (by omega), high_zero a (i + q + 1) ha (by omega), high_zero a (i + q) ha h]
 simp
def lostR (a n : Nat) : Bool := !decide (a = 0) && decide (lowN a < n)
theorem limbs_fill0 (f : Nat → Value) (k : Nat) : (fillTo (limbs 0) f k).size = 6 := by rw [fillTo_size]; rfl
theorem set2 (cs : Array Value) (k : Nat) (v : Value) (x y : Int) (h : x = y) : (cs.setIfInBounds k v).setIfInBounds k (.int .u64 x) = cs.setIfInBounds k (.int .u64 y) := by
 rw [h, Array.setIfInBounds_setIfInBounds]
theorem fill_rest (a q s k : Nat) (hs : s < 64) (ha : a < top6) (hk : k ≤ 6) (h : 6 ≤ k + q) :
  fillTo (limbs 0) (fun i => .int .u64 (limb (a / 2 ^ (64 * q + s)) i)) k = limbs (a / 2 ^ (64 * q + s)) := by
 apply Array.ext_getElem?
 intro j
 by_cases hj : j < 6
 ·rw [limbs_get _ j hj]
  by_cases hjk : j < k
  ·exact fillTo_lo _ _ k j hjk (by rw [limbs_size]; exact hj)
  ·rw [fillTo_hi _ _ k j (by omega), limbs_get 0 j hj, right_zero a q s j hs ha (by omega)]
   unfold limb limbN; rw [Nat.zero_div]; rfl
 ·rw [Array.getElem?_eq_none (by rw [fillTo_size, limbs_size]; omega), Array.getElem?_eq_none (by rw [limbs_size]; omega)]
set_option maxHeartbeats 6400000 in
theorem wideRight_q (a n q s : Nat) (x : Int) (w : World) (ha : a < top6) (hc : min (max x 0) 384 = (n : Int)) (hq : (n : Int) / 64 = (q : Int)) (hs : (n : Int) % 64 = (s : Int)) (hT : Tab w) :
  CR_ 180 #[W a, .int .i64 x] w (.tuple #[W (a / 2 ^ (64 * q + s)), .bool (lostR a n)]) := by
 have sa := limbs_size a
 obtain ⟨z, hz⟩ : ∃ z, decide (a = 0) = z := ⟨_, rfl⟩
 have eq0 := fun w => (run_equal_zero w a ha).trans (by rw [hz])
 have hn : n ≤ 384 := by omega
 have s64 : s < 64 := by omega
 have q6 : q ≤ 6 := by omega
 have HA := Lib.hid ha
 have HT := Lib.hid hT
 obtain ⟨l, l1⟩ : ∃ l, decide (lowN a < n) = l := ⟨_, rfl⟩
 have l2 : decide ((lowN a : Int) < (n : Int)) = l := by rw [← l1, Bool.eq_iff_iff, decide_eq_true_iff, decide_eq_true_iff]; omega
 have HL := Lib.hid (show lostR a n = (!z && l) by unfold lostR; rw [hz, l1])
 clear ha hT hz
 cases z
 ·go_enter Tryz.func180, Tryz.ntmps180
  go_wp2_with fail
  refine (wideCount_any _ _).mono ?_
  rw [hc]
  rintro e w' ⟨rfl, rfl⟩
  go_wp2_with fail
  refine (wideLow_any a _ HA.out (HT.out.below (((Below.refl _ _).alloc (Nat.le_refl _) _).alloc (by simp) _))).mono ?_
  rintro e w1 ⟨rfl, hb1⟩
  go_wp2_with fail

  simp only [hs]
  go_loopw [8] (fun i wr => ∃ k : Nat, k ≤ 6 ∧ i = .int .i64 k ∧ Blk 60 wr w.heap.size (limbs a) ∧
   Blk 60 wr (w.heap.size + 1) (fillTo (limbs 0) (fun i => .int .u64 (limb (a / 2 ^ (64 * q + s)) i)) k) ∧ Below w.heap.size w wr) (fun i _ => 6 - (intOf i).toNat)
  case atStart =>
   refine ⟨0, by omega, rfl, ?_, ?_, ?_⟩
   ·have := ((Blk.new (T := 60) w (limbs a)).alloc (.cells #[.int .u64 0, .int .u64 0, .int .u64 0, .int .u64 0, .int .u64 0, .int .u64 0] 60)).below hb1 (by simp <;> omega)
    simpa using this
   ·rw [fillTo, limbs_zero]
    have := (Blk.new (T := 60) (w.alloc (.cells (limbs a) 60)) #[.int .u64 0, .int .u64 0, .int .u64 0, .int .u64 0, .int .u64 0, .int .u64 0]).below hb1 (by simp)
    simpa using this
   ·exact (((Below.refl _ _).alloc (Nat.le_refl _) _).alloc (by simp) _).trans (hb1.mono (by simp <;> omega))
  case round =>
   obtain ⟨k, hk, rfl, ha, hs', hbel⟩ := hrel
   by_cases hlt : k + q < 6
   ·have ca := ha.cell (k + q) (limbs_get a (k + q) hlt)
    have fb := hs'.free k
    have cb0 := hs'.cell k ((fillTo_hi _ _ k k (Nat.le_refl _)).trans (limbs_get 0 k (by omega)))
    by_cases hl5 : k + q < 5
    ·have b2 := hs'.set k (.int .u64 (limb a (k + q) / 2 ^ s)) rfl
     have cb := b2.cell k (v := .int .u64 (limb a (k + q) / 2 ^ s)) (by rw [Array.getElem?_setIfInBounds, if_pos rfl, if_pos (by rw [limbs_fill0]; omega)])
     have fb2 := b2.free k
     have ca2 := (ha.other ⟨w.heap.size + 1, k, none⟩ (.int .u64 (limb a (k + q) / 2 ^ s)) (by simp)).cell (k + q + 1) (limbs_get a (k + q + 1) (by omega))
     have i1 : (k : Int) + (q : Int) + 1 < 6 := by omega
     have i0 : (0 : Int) ≤ (k : Int) + (q : Int) + 1 := by omega
     have iw : IntKind.i64.wrap ((k : Int) + (q : Int) + 1) = (k : Int) + (q : Int) + 1 := IntWalk.i64_in _ (by omega)
     have iv : IntKind.i64.wrap ((k : Int) + (q : Int)) = (k : Int) + (q : Int) := IntWalk.i64_in _ (by omega)
     have it : ((k : Int) + (q : Int) + 1).toNat = k + q + 1 := by omega
     clear b2
     go_wp2_with fail
     go_region_with (fail)
     all_goals go_wp2
     all_goals
      go_roundw
      case rel => exact ⟨k + 1, by omega, by go_num, ((ha.other _ _ (by simp)).other _ _ (by simp)).drew, ((hs'.set k _ rfl).set k _ (set2 _ _ _ _ _ (right_or a q s k s64 hl5))).drew, ((hbel.setCell (by simp) _).setCell (by simp) _).drew⟩
      case measure => simp [intOf]; omega
    ·have b5 : ¬ (k : Int) + (q : Int) < 5 := by omega
     go_wp2_with fail
     go_roundw
     case rel => exact ⟨k + 1, by omega, by go_num, ha.other _ _ (by simp), hs'.set k _ (by rw [right_last a q s k s64 HA.out (by omega)]; rfl), hbel.setCell (by simp) _⟩
     case measure => simp [intOf]; omega
   ·have F := fill_rest a q s k s64 HA.out hk (by omega)
    rw [F] at hs'
    obtain ⟨c0, c1, c2, c3, c4, c5⟩ := hs'.six
    obtain ⟨f0, f1, f2, f3, f4, f5⟩ := hs'.six_free
    clear F
    go_wp2_with fail
    rw [hs'.keep 0 _ (limbs_get _ 0 (by decide)), hs'.keep 1 _ (limbs_get _ 1 (by decide)), hs'.keep 2 _ (limbs_get _ 2 (by decide)), hs'.keep 3 _ (limbs_get _ 3 (by decide)), hs'.keep 4 _ (limbs_get _ 4 (by decide)), hs'.keep 5 _ (limbs_get _ 5 (by decide))]
    exact bodyPost_ret (v := .tuple #[W (a / 2 ^ (64 * q + s)), .bool _]) (by simp [results, Tryz.results180, go_sem, c0, c1, c2, c3, c4, c5, limbs]; rfl) rfl ⟨by rw [HL.out]; rfl, hbel⟩

 ·go_enter Tryz.func180, Tryz.ntmps180
  go_wp2_with fail
  refine (wideCount_any _ _).mono ?_
  rw [hc]
  rintro e w' ⟨rfl, rfl⟩
  go_wp2_with fail

  simp only [hs]
  go_loopw [8] (fun i wr => ∃ k : Nat, k ≤ 6 ∧ i = .int .i64 k ∧ Blk 60 wr w.heap.size (limbs a) ∧
   Blk 60 wr (w.heap.size + 1) (fillTo (limbs 0) (fun i => .int .u64 (limb (a / 2 ^ (64 * q + s)) i)) k) ∧ Below w.heap.size w wr) (fun i _ => 6 - (intOf i).toNat)
  case atStart =>
   refine ⟨0, by omega, rfl, ?_, ?_, ?_⟩
   ·have := (Blk.new (T := 60) w (limbs a)).alloc (.cells #[.int .u64 0, .int .u64 0, .int .u64 0, .int .u64 0, .int .u64 0, .int .u64 0] 60)
    simpa using this
   ·rw [fillTo, limbs_zero]
    have := Blk.new (T := 60) (w.alloc (.cells (limbs a) 60)) #[.int .u64 0, .int .u64 0, .int .u64 0, .int .u64 0, .int .u64 0, .int .u64 0]
    simpa using this
   ·exact ((Below.refl _ _).alloc (Nat.le_refl _) _).alloc (by simp) _
  case round =>
   obtain ⟨k, hk, rfl, ha, hs', hbel⟩ := hrel
   by_cases hlt : k + q < 6
   ·have ca := ha.cell (k + q) (limbs_get a (k + q) hlt)
    have fb := hs'.free k
    have cb0 := hs'.cell k ((fillTo_hi _ _ k k (Nat.le_refl _)).trans (limbs_get 0 k (by omega)))
    by_cases hl5 : k + q < 5
    ·have b2 := hs'.set k (.int .u64 (limb a (k + q) / 2 ^ s)) rfl
     have cb := b2.cell k (v := .int .u64 (limb a (k + q) / 2 ^ s)) (by rw [Array.getElem?_setIfInBounds, if_pos rfl, if_pos (by rw [limbs_fill0]; omega)])
     have fb2 := b2.free k
     have ca2 := (ha.other ⟨w.heap.size + 1, k, none⟩ (.int .u64 (limb a (k + q) / 2 ^ s)) (by simp)).cell (k + q + 1) (limbs_get a (k + q + 1) (by omega))
     have i1 : (k : Int) + (q : Int) + 1 < 6 := by omega
     have i0 : (0 : Int) ≤ (k : Int) + (q : Int) + 1 := by omega
     have iw : IntKind.i64.wrap ((k : Int) + (q : Int) + 1) = (k : Int) + (q : Int) + 1 := IntWalk.i64_in _ (by omega)
     have iv : IntKind.i64.wrap ((k : Int) + (q : Int)) = (k : Int) + (q : Int) := IntWalk.i64_in _ (by omega)
     have it : ((k : Int) + (q : Int) + 1).toNat = k + q + 1 := by omega
     clear b2
     go_wp2_with fail
     go_region_with (fail)
     all_goals go_wp2
     all_goals
      go_roundw
      case rel => exact ⟨k + 1, by omega, by go_num, ((ha.other _ _ (by simp)).other _ _ (by simp)).drew, ((hs'.set k _ rfl).set k _ (set2 _ _ _ _ _ (right_or a q s k s64 hl5))).drew, ((hbel.setCell (by simp) _).setCell (by simp) _).drew⟩
      case measure => simp [intOf]; omega
    ·have b5 : ¬ (k : Int) + (q : Int) < 5 := by omega
     go_wp2_with fail
     go_roundw
     case rel => exact ⟨k + 1, by omega, by go_num, ha.other _ _ (by simp), hs'.set k _ (by rw [right_last a q s k s64 HA.out (by omega)]; rfl), hbel.setCell (by simp) _⟩
     case measure => simp [intOf]; omega
   ·have F := fill_rest a q s k s64 HA.out hk (by omega)
    rw [F] at hs'
    obtain ⟨c0, c1, c2, c3, c4, c5⟩ := hs'.six
    obtain ⟨f0, f1, f2, f3, f4, f5⟩ := hs'.six_free
    clear F
    go_wp2_with fail
    rw [hs'.keep 0 _ (limbs_get _ 0 (by decide)), hs'.keep 1 _ (limbs_get _ 1 (by decide)), hs'.keep 2 _ (limbs_get _ 2 (by decide)), hs'.keep 3 _ (limbs_get _ 3 (by decide)), hs'.keep 4 _ (limbs_get _ 4 (by decide)), hs'.keep 5 _ (limbs_get _ 5 (by decide))]
    exact bodyPost_ret (v := .tuple #[W (a / 2 ^ (64 * q + s)), .bool _]) (by simp [results, Tryz.results180, go_sem, c0, c1, c2, c3, c4, c5, limbs]; rfl) rfl ⟨by rw [HL.out]; rfl, hbel⟩
theorem limbN_left0 (a q s : Nat) : limbN (a * 2 ^ (64 * q + s)) q = limbN a 0 * 2 ^ s % 18446744073709551616 := by
 unfold limbN
 rw [Nat.pow_add, ← Nat.mul_assoc, Nat.mul_right_comm, Nat.mul_div_cancel _ (pw_pos q), Nat.mul_zero, Nat.pow_zero, Nat.div_one]
 rw [Nat.mod_mul_mod]
theorem limbN_left (a q s j : Nat) (hs : s ≤ 64) : limbN (a * 2 ^ (64 * q + s)) (q + j + 1) = limbN a (j + 1) * 2 ^ s % 18446744073709551616 + limbN a j / 2 ^ (64 - s) := by
 have e : a * 2 ^ (64 * q + s) / 2 ^ (64 * (q + j + 1)) = a / 2 ^ (64 * j + (64 - s)) := by
  rw [show 64 * (q + j + 1) = (64 * q + s) + (64 * j + (64 - s)) by omega, Nat.pow_add (2) (64 * q + s), ← Nat.div_div_eq_div_mul, Nat.mul_div_cancel _ (Nat.two_pow_pos _)]
 have r := limbN_right a j (64 - s) 0 (by omega)
 rw [Nat.zero_add, show 64 - (64 - s) = s by omega] at r
 rw [← r]
 unfold limbN
 rw [e, Nat.mul_zero, Nat.pow_zero, Nat.div_one]
theorem limbN_leftz (a q s i : Nat) (h : i < q) : limbN (a * 2 ^ (64 * q + s)) i = 0 := by
 unfold limbN
 rw [show 64 * q + s = 64 * i + (64 + (64 * (q - i - 1) + s)) by omega, Nat.pow_add, Nat.pow_add 2 64, Nat.mul_left_comm, Nat.mul_div_cancel_left _ (pw_pos i), Nat.mul_left_comm, ← B64, Nat.mul_mod_right]
theorem limb_shl (a i s : Nat) : IntKind.u64.wrap (limb a i * 2 ^ s) = ((limbN a i * 2 ^ s % 18446744073709551616 : Nat) : Int) := by
 rw [IntKind.wrap_u64]; unfold limb; simp
theorem left_or (a q s j : Nat) (hs : s < 64) :
  Go.bits .or .u64 (IntKind.u64.wrap (limb a (j + 1) * 2 ^ s)) (limb a j / 2 ^ (64 - s)) = limb (a * 2 ^ (64 * q + s)) (q + j + 1) := by
 have h2 : limbN a j / 2 ^ (64 - s) < 2 ^ s := by
  rw [Nat.div_lt_iff_lt_mul (Nat.two_pow_pos _), ← Nat.pow_add, show s + (64 - s) = 64 by omega, ← B64]; exact limbN_lt _ _
 have h3 : limbN a j / 2 ^ (64 - s) < 18446744073709551616 := Nat.lt_of_le_of_lt (Nat.div_le_self _ _) (limbN_lt _ _)
 have h4 : limbN a (j + 1) * 2 ^ s % 18446744073709551616 < 18446744073709551616 := Nat.mod_lt _ (by decide)
 have h5 : limbN a (j + 1) * 2 ^ s % 18446744073709551616 % 2 ^ s = 0 := by
  rw [show (18446744073709551616 : Nat) = 2 ^ s * 2 ^ (64 - s) by rw [← Nat.pow_add, show s + (64 - s) = 64 by omega], Nat.mod_mul_right_mod, Nat.mul_mod_left]
 rw [limb_shr, limb_shl, u64_or_nat _ _ h4 h3, nat_join s _ _ h5 h2]
 unfold limb
 rw [limbN_left a q s j (by omega)]
theorem left_first (a q s : Nat) : IntKind.u64.wrap (limb a 0 * 2 ^ s) = limb (a * 2 ^ (64 * q + s)) q := by
 rw [limb_shl]; unfold limb; rw [limbN_left0]
def hiB (x p : Nat) : Array Value := #[.int .u64 (if p ≤ 0 then limb x 0 else 0), .int .u64 (if p ≤ 1 then limb x 1 else 0), .int .u64 (if p ≤ 2 then limb x 2 else 0), .int .u64 (if p ≤ 3 then limb x 3 else 0), .int .u64 (if p ≤ 4 then limb x 4 else 0), .int .u64 (if p ≤ 5 then limb x 5 else 0)]
theorem hiB_top (x : Nat) : hiB x 6 = #[.int .u64 0, .int .u64 0, .int .u64 0, .int .u64 0, .int .u64 0, .int .u64 0] := by unfold hiB; simp
theorem hiB_size (x p : Nat) : (hiB x p).size = 6 := rfl
theorem hiB_get (x p i : Nat) (hi : i < 6) (h : i < p) : (hiB x p)[i]? = some (.int .u64 0) := by
 have : i = 0 ∨ i = 1 ∨ i = 2 ∨ i = 3 ∨ i = 4 ∨ i = 5 := by omega
 rcases this with rfl | rfl | rfl | rfl | rfl | rfl <;> simp [hiB] <;> omega
theorem hiB_set (x p : Nat) (h : p < 6) (v : Int) (hv : v = limb x p) : (hiB x (p + 1)).setIfInBounds p (.int .u64 v) = hiB x p := by
 subst hv
 have : p = 0 ∨ p = 1 ∨ p = 2 ∨ p = 3 ∨ p = 4 ∨ p = 5 := by omega
 rcases this with rfl | rfl | rfl | rfl | rfl | rfl <;> simp [hiB]
theorem hiB_set2 (x p : Nat) (h : p < 6) (u : Value) (v : Int) (hv : v = limb x p) : ((hiB x (p + 1)).setIfInBounds p u).setIfInBounds p (.int .u64 v) = hiB x p := by
 rw [Array.setIfInBounds_setIfInBounds]; exact hiB_set x p h v hv
theorem hiB_done (x p : Nat) (h : ∀ i, i < p → limb x i = 0) : hiB x p = limbs x := by
 have e : ∀ i, (if p ≤ i then limb x i else 0) = limb x i := by
  intro i; split
  ·rfl
  ·rw [h i (by omega)]
 unfold hiB limbs
 rw [e, e, e, e, e, e]
def lostL (a n : Nat) : Bool := decide (384 < lenN a + n) && !decide (a = 0)
set_option maxHeartbeats 6400000 in
theorem wideLeft_q (a n q s : Nat) (x : Int) (w : World) (ha : a < top6) (hc : min (max x 0) 384 = (n : Int)) (hq : (n : Int) / 64 = (q : Int)) (hs : (n : Int) % 64 = (s : Int)) :
  CR_ 101 #[W a, .int .i64 x] w (.tuple #[W (a * 2 ^ (64 * q + s)), .bool (lostL a n)]) := by
 have sa := limbs_size a
 obtain ⟨z, hz⟩ : ∃ z, decide (a = 0) = z := ⟨_, rfl⟩
 have eq0 := fun w => (run_equal_zero w a ha).trans (by rw [hz])
 have hn : n ≤ 384 := by omega
 have s64 : s < 64 := by omega
 have q6 : q ≤ 6 := by omega
 have HA := Lib.hid ha
 obtain ⟨l, l1⟩ : ∃ l, decide (384 < lenN a + n) = l := ⟨_, rfl⟩
 have l2 : decide ((384 : Int) < (lenN a : Int) + (n : Int)) = l := by rw [← l1, Bool.eq_iff_iff, decide_eq_true_iff, decide_eq_true_iff]; omega
 have ln : (lenN a : Int) ≤ 384 := by
  have := (lenN_le a (64 * 6)).2 ha
  omega
 have HL := Lib.hid (show lostL a n = (l && !z) by unfold lostL; rw [hz, l1])
 clear ha hz
 cases l
 ·go_enter Tryz.func101, Tryz.ntmps101
  go_wp2_with fail
  refine (wideCount_any _ _).mono ?_
  rw [hc]
  rintro e w' ⟨rfl, rfl⟩
  go_wp2_with fail
  refine (wideLen_any a _ HA.out).mono ?_
  rintro e w1 ⟨rfl, hb1⟩
  have ba := ((Blk.new (T := 60) w (limbs a)).alloc (.cells #[.int .u64 0, .int .u64 0, .int .u64 0, .int .u64 0, .int .u64 0, .int .u64 0] 60)).below hb1 (by simp <;> omega)
  obtain ⟨c0, c1, c2, c3, c4, c5⟩ := ba.six
  clear ba
  go_wp2_with fail
  simp only [hs]
  go_loopw [8] (fun i wr => ∃ r : Nat, q + r ≤ 6 ∧ i = .int .i64 ((q : Int) + (r : Int) - 1) ∧ Blk 60 wr w.heap.size (limbs a) ∧
   Blk 60 wr (w.heap.size + 1) (hiB (a * 2 ^ (64 * q + s)) (q + r)) ∧ Below w.heap.size w wr) (fun i _ => (intOf i + 1).toNat)
  case atStart =>
   refine ⟨6 - q, by omega, ?_, ?_, ?_, ?_⟩
   ·rw [show (q : Int) + ((6 - q : Nat) : Int) - 1 = 5 by omega]
   ·have := ((Blk.new (T := 60) w (limbs a)).alloc (.cells #[.int .u64 0, .int .u64 0, .int .u64 0, .int .u64 0, .int .u64 0, .int .u64 0] 60)).below hb1 (by simp <;> omega)
    simpa using this
   ·rw [show q + (6 - q) = 6 by omega, hiB_top]
    have := (Blk.new (T := 60) (w.alloc (.cells (limbs a) 60)) #[.int .u64 0, .int .u64 0, .int .u64 0, .int .u64 0, .int .u64 0, .int .u64 0]).below hb1 (by simp)
    simpa using this
   ·exact (((Below.refl _ _).alloc (Nat.le_refl _) _).alloc (by simp) _).trans (hb1.mono (by simp <;> omega))
  case round =>
   obtain ⟨r, hr, rfl, ha, hb, hbel⟩ := hrel
   cases r with
   | zero =>
    rw [show q + 0 = q from rfl, hiB_done _ q (fun i hi => by unfold limb; rw [limbN_leftz a q s i hi]; rfl)] at hb
    obtain ⟨d0, d1, d2, d3, d4, d5⟩ := hb.six
    obtain ⟨f0, f1, f2, f3, f4, f5⟩ := hb.six_free
    clear c0 c1 c2 c3 c4 c5
    go_wp2_with fail
    rw [hb.keep 0 _ (limbs_get _ 0 (by decide)), hb.keep 1 _ (limbs_get _ 1 (by decide)), hb.keep 2 _ (limbs_get _ 2 (by decide)), hb.keep 3 _ (limbs_get _ 3 (by decide)), hb.keep 4 _ (limbs_get _ 4 (by decide)), hb.keep 5 _ (limbs_get _ 5 (by decide))]
    exact bodyPost_ret (v := .tuple #[W (a * 2 ^ (64 * q + s)), .bool false]) (by simp [results, Tryz.results101, go_sem, d0, d1, d2, d3, d4, d5, limbs]; try rfl) rfl ⟨by rw [HL.out]; rfl, hbel⟩
   | succ j =>
    cases j with
    | zero =>
     rw [show (q : Int) + ((0 + 1 : Nat) : Int) - 1 = (q : Int) by omega]
     rw [show q + (0 + 1) = q + 1 from rfl] at hb
     have ca := ha.cell 0 (limbs_get a 0 (by omega))
     have fb := hb.free q
     have cb0 := hb.cell q (hiB_get _ _ _ (by omega) (by omega))
     have q5 : q < 6 := by omega
     clear c0 c1 c2 c3 c4 c5
     go_wp2_with fail
     go_roundw
     case rel => exact ⟨0, by omega, by go_num, ha.other _ _ (by simp), hb.set q _ (hiB_set _ q (by omega) _ (left_first a q s)), hbel.setCell (by simp) _⟩
     case measure => (simp [intOf]; try omega)
    | succ m =>
     obtain ⟨p, hp⟩ : ∃ p, p = q + m + 1 := ⟨_, rfl⟩
     rw [show (q : Int) + ((m + 1 + 1 : Nat) : Int) - 1 = (p : Int) by omega]
     rw [show q + (m + 1 + 1) = p + 1 by omega] at hb
     have p6 : p < 6 := by omega
     have qp : (q : Int) < (p : Int) := by omega
     have e1 : (p : Int) - (q : Int) = ((m + 1 : Nat) : Int) := by omega
     have e2 : (p : Int) - (q : Int) - 1 = (m : Int) := by omega
     have ca := ha.cell (m + 1) (limbs_get a (m + 1) (by omega))
     have ca2 := (ha.other ⟨w.heap.size + 1, p, none⟩ (.int .u64 (IntKind.u64.wrap (limb a (m + 1) * 2 ^ s))) (by simp)).cell m (limbs_get a m (by omega))
     have fb := hb.free p
     have cb0 := hb.cell p (hiB_get _ _ _ p6 (by omega))
     have b2 := hb.set p (.int .u64 (IntKind.u64.wrap (limb a (m + 1) * 2 ^ s))) rfl
     have cb := b2.cell p (v := .int .u64 (IntKind.u64.wrap (limb a (m + 1) * 2 ^ s))) (by rw [Array.getElem?_setIfInBounds, if_pos rfl, if_pos (by rw [hiB_size]; omega)])
     have fb2 := b2.free p
     have hm : m + 1 < 6 := by omega
     have im : (m : Int) < 6 := by omega
     have m6 : m < 6 := by omega
     have d6 : decide (m < 6) = true := by simp; omega
     have ip : (p : Int) < 6 := by omega
     have ip0 : (0 : Int) ≤ (p : Int) := by omega
     have im0 : (0 : Int) ≤ (m : Int) := by omega
     have e3 : ((m + 1 : Nat) : Int) - 1 = (m : Int) := by omega
     have e4 : (m : Int) + 1 - 1 = (m : Int) := by omega
     have v1 : IntKind.i64.wrap ((p : Int) - (q : Int)) = ((m + 1 : Nat) : Int) := by rw [e1]; exact IntWalk.i64_in _ (by omega)
     have v2 : IntKind.i64.wrap (((m + 1 : Nat) : Int) - 1) = (m : Int) := by rw [e3]; exact IntWalk.i64_in _ (by omega)
     have v3 : IntKind.i64.wrap ((m : Int) + 1 - 1) = (m : Int) := by rw [e4]; exact IntWalk.i64_in _ (by omega)
     clear b2 c0 c1 c2 c3 c4 c5
     have HP := Lib.hid hp
     clear hp
     go_wp2_with fail
     go_region
     all_goals go_wp2
     all_goals
      go_roundw
      case rel => exact ⟨m + 1, by have := HP.out; omega, by have := HP.out; simp; omega, ((ha.other _ _ (by simp)).other _ _ (by simp)).drew, by have e : q + (m + 1) = p := HP.out.symm; rw [e]; exact ((hb.set p _ rfl).set p _ (hiB_set2 _ p p6 _ _ (by rw [HP.out]; exact left_or a q s m s64))).drew, ((hbel.setCell (by simp) _).setCell (by simp) _).drew⟩
      case measure => (simp [intOf]; try omega)
 ·go_enter Tryz.func101, Tryz.ntmps101
  go_wp2_with fail
  refine (wideCount_any _ _).mono ?_
  rw [hc]
  rintro e w' ⟨rfl, rfl⟩
  go_wp2_with fail
  refine (wideLen_any a _ HA.out).mono ?_
  rintro e w1 ⟨rfl, hb1⟩
  have ba := ((Blk.new (T := 60) w (limbs a)).alloc (.cells #[.int .u64 0, .int .u64 0, .int .u64 0, .int .u64 0, .int .u64 0, .int .u64 0] 60)).below hb1 (by simp <;> omega)
  obtain ⟨c0, c1, c2, c3, c4, c5⟩ := ba.six
  clear ba
  go_wp2_with fail
  simp only [hs]
  go_loopw [8] (fun i wr => ∃ r : Nat, q + r ≤ 6 ∧ i = .int .i64 ((q : Int) + (r : Int) - 1) ∧ Blk 60 wr w.heap.size (limbs a) ∧
   Blk 60 wr (w.heap.size + 1) (hiB (a * 2 ^ (64 * q + s)) (q + r)) ∧ Below w.heap.size w wr) (fun i _ => (intOf i + 1).toNat)
  case atStart =>
   refine ⟨6 - q, by omega, ?_, ?_, ?_, ?_⟩
   ·rw [show (q : Int) + ((6 - q : Nat) : Int) - 1 = 5 by omega]
   ·have := ((Blk.new (T := 60) w (limbs a)).alloc (.cells #[.int .u64 0, .int .u64 0, .int .u64 0, .int .u64 0, .int .u64 0, .int .u64 0] 60)).below hb1 (by simp <;> omega)
    simpa using this
   ·rw [show q + (6 - q) = 6 by omega, hiB_top]
    have := (Blk.new (T := 60) (w.alloc (.cells (limbs a) 60)) #[.int .u64 0, .int .u64 0, .int .u64 0, .int .u64 0, .int .u64 0, .int .u64 0]).below hb1 (by simp)
    simpa using this
   ·exact (((Below.refl _ _).alloc (Nat.le_refl _) _).alloc (by simp) _).trans (hb1.mono (by simp <;> omega))
  case round =>
   obtain ⟨r, hr, rfl, ha, hb, hbel⟩ := hrel
   cases r with
   | zero =>
    rw [show q + 0 = q from rfl, hiB_done _ q (fun i hi => by unfold limb; rw [limbN_leftz a q s i hi]; rfl)] at hb
    obtain ⟨d0, d1, d2, d3, d4, d5⟩ := hb.six
    obtain ⟨f0, f1, f2, f3, f4, f5⟩ := hb.six_free
    clear c0 c1 c2 c3 c4 c5
    go_wp2_with fail
    rw [hb.keep 0 _ (limbs_get _ 0 (by decide)), hb.keep 1 _ (limbs_get _ 1 (by decide)), hb.keep 2 _ (limbs_get _ 2 (by decide)), hb.keep 3 _ (limbs_get _ 3 (by decide)), hb.keep 4 _ (limbs_get _ 4 (by decide)), hb.keep 5 _ (limbs_get _ 5 (by decide))]
    exact bodyPost_ret (v := .tuple #[W (a * 2 ^ (64 * q + s)), .bool (!z)]) (by simp [results, Tryz.results101, go_sem, d0, d1, d2, d3, d4, d5, limbs]; try rfl) rfl ⟨by rw [HL.out]; rfl, hbel⟩
   | succ j =>
    cases j with
    | zero =>
     rw [show (q : Int) + ((0 + 1 : Nat) : Int) - 1 = (q : Int) by omega]
     rw [show q + (0 + 1) = q + 1 from rfl] at hb
     have ca := ha.cell 0 (limbs_get a 0 (by omega))
     have fb := hb.free q
     have cb0 := hb.cell q (hiB_get _ _ _ (by omega) (by omega))
     have q5 : q < 6 := by omega
     clear c0 c1 c2 c3 c4 c5
     go_wp2_with fail
     go_roundw
     case rel => exact ⟨0, by omega, by go_num, ha.other _ _ (by simp), hb.set q _ (hiB_set _ q (by omega) _ (left_first a q s)), hbel.setCell (by simp) _⟩
     case measure => (simp [intOf]; try omega)
    | succ m =>
     obtain ⟨p, hp⟩ : ∃ p, p = q + m + 1 := ⟨_, rfl⟩
     rw [show (q : Int) + ((m + 1 + 1 : Nat) : Int) - 1 = (p : Int) by omega]
     rw [show q + (m + 1 + 1) = p + 1 by omega] at hb
     have p6 : p < 6 := by omega
     have qp : (q : Int) < (p : Int) := by omega
     have e1 : (p : Int) - (q : Int) = ((m + 1 : Nat) : Int) := by omega
     have e2 : (p : Int) - (q : Int) - 1 = (m : Int) := by omega
     have ca := ha.cell (m + 1) (limbs_get a (m + 1) (by omega))
     have ca2 := (ha.other ⟨w.heap.size + 1, p, none⟩ (.int .u64 (IntKind.u64.wrap (limb a (m + 1) * 2 ^ s))) (by simp)).cell m (limbs_get a m (by omega))
     have fb := hb.free p
     have cb0 := hb.cell p (hiB_get _ _ _ p6 (by omega))
     have b2 := hb.set p (.int .u64 (IntKind.u64.wrap (limb a (m + 1) * 2 ^ s))) rfl
     have cb := b2.cell p (v := .int .u64 (IntKind.u64.wrap (limb a (m + 1) * 2 ^ s))) (by rw [Array.getElem?_setIfInBounds, if_pos rfl, if_pos (by rw [hiB_size]; omega)])
     have fb2 := b2.free p
     have hm : m + 1 < 6 := by omega
     have im : (m : Int) < 6 := by omega
     have m6 : m < 6 := by omega
     have d6 : decide (m < 6) = true := by simp; omega
     have ip : (p : Int) < 6 := by omega
     have ip0 : (0 : Int) ≤ (p : Int) := by omega
     have im0 : (0 : Int) ≤ (m : Int) := by omega
     have e3 : ((m + 1 : Nat) : Int) - 1 = (m : Int) := by omega
     have e4 : (m : Int) + 1 - 1 = (m : Int) := by omega
     have v1 : IntKind.i64.wrap ((p : Int) - (q : Int)) = ((m + 1 : Nat) : Int) := by rw [e1]; exact IntWalk.i64_in _ (by omega)
     have v2 : IntKind.i64.wrap (((m + 1 : Nat) : Int) - 1) = (m : Int) := by rw [e3]; exact IntWalk.i64_in _ (by omega)
     have v3 : IntKind.i64.wrap ((m : Int) + 1 - 1) = (m : Int) := by rw [e4]; exact IntWalk.i64_in _ (by omega)
     clear b2 c0 c1 c2 c3 c4 c5
     have HP := Lib.hid hp
     clear hp
     go_wp2_with fail
     go_region
     all_goals go_wp2
     all_goals
      go_roundw
      case rel => exact ⟨m + 1, by have := HP.out; omega, by have := HP.out; simp; omega, ((ha.other _ _ (by simp)).other _ _ (by simp)).drew, by have e : q + (m + 1) = p := HP.out.symm; rw [e]; exact ((hb.set p _ rfl).set p _ (hiB_set2 _ p p6 _ _ (by rw [HP.out]; exact left_or a q s m s64))).drew, ((hbel.setCell (by simp) _).setCell (by simp) _).drew⟩
      case measure => (simp [intOf]; try omega)
def clip (x : Int) : Nat := (min (max x 0) 384).toNat
theorem clip_of (n : Nat) (h : n ≤ 384) : clip (n : Int) = n := by unfold clip; omega
theorem wideLeft_any (a : Nat) (x : Int) (w : World) (ha : a < top6) :
  CR_ 101 #[W a, .int .i64 x] w (.tuple #[W (a * 2 ^ clip x), .bool (lostL a (clip x))]) := by
 have e : 64 * (clip x / 64) + clip x % 64 = clip x := by omega
 have := wideLeft_q a (clip x) (clip x / 64) (clip x % 64) x w ha (by unfold clip; omega) (by omega) (by omega)
 rw [e] at this
 exact this
theorem wideRight_any (a : Nat) (x : Int) (w : World) (ha : a < top6) (hT : Tab w) :
  CR_ 180 #[W a, .int .i64 x] w (.tuple #[W (a / 2 ^ clip x), .bool (lostR a (clip x))]) := by
 have e : 64 * (clip x / 64) + clip x % 64 = clip x := by omega
 have := wideRight_q a (clip x) (clip x / 64) (clip x % 64) x w ha (by unfold clip; omega) (by omega) (by omega) hT
 rw [e] at this
 exact this
def clip64 (x : Int) : Nat := (min (max x 0) 64).toNat
theorem clip64_le (x : Int) : clip64 x ≤ 64 := by unfold clip64; omega
theorem wordCount_any (x : Int) (w : World) :
  Calls Tryz.prog 232 #[.int .i64 x] w fun e w' => e = .returned (.int .u64 (clip64 x : Nat)) ∧ w = w' := by
 have h : min (max x 0) 64 = ((clip64 x : Nat) : Int) := by unfold clip64; omega
 have H := Lib.hid h
 clear h
 go_enter Tryz.func232, Tryz.ntmps232
 go_wp2
 go_ret
 exact ⟨ret_int H.out, rfl⟩
def ones (k : Nat) : Nat := 2 ^ k - 1
theorem wordMask_any (x : Int) (w : World) :
  Calls Tryz.prog 223 #[.int .i64 x] w fun e w' => e = .returned (.int .u64 (ones (clip64 x) : Nat)) ∧ w = w' := by
 have hc := clip64_le x
 have H : Hid (IntKind.u64.wrap (IntKind.u64.wrap (2 ^ clip64 x) - 1) = ((ones (clip64 x) : Nat) : Int)) := by
  apply Lib.hid
  have h1 : 2 ^ clip64 x ≤ (18446744073709551616 : Nat) := by rw [B64]; exact Nat.pow_le_pow_right (by decide) hc
  have h2 := Nat.two_pow_pos (clip64 x)
  rw [IntKind.wrap_u64, IntKind.wrap_u64]
  unfold ones
  have e : (2 : Int) ^ clip64 x = ((2 ^ clip64 x : Nat) : Int) := by simp
  rw [e]
  generalize 2 ^ clip64 x = y at *
  omega
 go_enter Tryz.func223, Tryz.ntmps223
 go_wp2_with fail
 refine (wordCount_any _ _).mono ?_
 rintro e w' ⟨rfl, rfl⟩
 go_wp2
 go_ret
 exact ⟨ret_int H.out, rfl⟩
theorem limbN_ones (n i : Nat) : limbN (ones n) i = ones (clip64 ((n : Int) - 64 * (i : Int))) := by
 have e : ∀ k, clip64 ((n : Int) - 64 * (i : Int)) = k ↔ k = min (n - 64 * i) 64 := by
  intro k; unfold clip64; omega
 rw [(e _).2 rfl]
 apply Nat.eq_of_testBit_eq
 intro j
 unfold limbN ones
 rw [B64, Nat.testBit_mod_two_pow, Nat.testBit_div_two_pow, Nat.testBit_two_pow_sub_one, Nat.testBit_two_pow_sub_one]
 rw [Bool.eq_iff_iff]; simp; omega
theorem wideMask_any (x : Int) (w : World) :
  CR_ 190 #[.int .i64 x] w (W (ones (clip x))) := by
 obtain ⟨n, hn⟩ : ∃ n, clip x = n := ⟨_, rfl⟩
 have hc : min (max x 0) 384 = (n : Int) := by unfold clip at hn; omega
 have hn4 : n ≤ 384 := by omega
 rw [hn]
 clear hn
 go_enter Tryz.func190, Tryz.ntmps190
 go_wp2_with fail
 refine (wideCount_any _ _).mono ?_
 rw [hc]
 rintro e w' ⟨rfl, rfl⟩
 go_wp2_with fail
 go_loopw [7] (fun i wr => ∃ k : Nat, k ≤ 6 ∧ i = .int .i64 k ∧ Blk 60 wr (w.heap.size + 1) (fillTo (limbs 0) (fun i => .int .u64 (limb (ones n) i)) k) ∧
   Blk 60 wr w.heap.size (limbs 0) ∧ Below w.heap.size w wr) (fun i _ => 6 - (intOf i).toNat)
 case atStart =>
  refine ⟨0, by omega, rfl, ?_, ?_, (((Below.refl _ _).alloc (Nat.le_refl _) _).alloc (by simp) _)⟩
  ·have := Blk.new (T := 60) (w.alloc (.cells #[.int .u64 0, .int .u64 0, .int .u64 0, .int .u64 0, .int .u64 0, .int .u64 0] 60)) #[.int .u64 0, .int .u64 0, .int .u64 0, .int .u64 0, .int .u64 0, .int .u64 0]
   rw [fillTo, limbs_zero]
   simpa using this
  ·rw [limbs_zero]
   exact (Blk.new _ _).alloc _
 case round =>
  obtain ⟨k, hk, rfl, ha, hs, hbel⟩ := hrel
  by_cases hlt : k < 6
  ·have ca := ha.cell k ((fillTo_hi _ _ k k (Nat.le_refl _)).trans (limbs_get 0 k hlt))
   have fa := ha.free k
   have w1 : IntKind.i64.wrap (64 * (k : Int)) = 64 * (k : Int) := IntWalk.i64_in _ (by omega)
   have w2 : IntKind.i64.wrap ((n : Int) - 64 * (k : Int)) = (n : Int) - 64 * (k : Int) := IntWalk.i64_in _ (by omega)
   go_wp2_with fail
   refine (wordMask_any _ _).mono ?_
   rintro e w' ⟨rfl, rfl⟩
   go_wp2
   go_roundw
   case rel => exact ⟨k + 1, by omega, by go_num, ha.set k _ (by rw [← limbN_ones]; rfl), hs.other _ _ (by simp), hbel.setCell (by simp) _⟩
   case measure => simp [intOf]; omega
  ·have : k = 6 := by omega
   subst this
   rw [fillTo_all (limbs 0) _ (ones n) rfl (fun i _ => rfl)] at ha
   obtain ⟨c0, c1, c2, c3, c4, c5⟩ := ha.six
   obtain ⟨d0, d1, d2, d3, d4, d5⟩ := hs.six
   obtain ⟨f0, f1, f2, f3, f4, f5⟩ := hs.six_free
   clear hlt
   go_wp2_with fail
   have hr := hs.store6 rfl (.int .u64 (limb (ones n) 0)) (.int .u64 (limb (ones n) 1)) (.int .u64 (limb (ones n) 2)) (.int .u64 (limb (ones n) 3)) (.int .u64 (limb (ones n) 4)) (.int .u64 (limb (ones n) 5))
   obtain ⟨r0, r1, r2, r3, r4, r5⟩ := Blk.six (a := ones n) hr
   exact bodyPost_ret (v := W (ones n)) (by simp only [results, Tryz.results190]; simp [go_sem, r0, r1, r2, r3, r4, r5, limbs]) rfl ⟨rfl, below_set6 hbel (by omega) _ _ _ _ _ _⟩
theorem wideAnd_any (a b : Nat) (w : World) :
  CR_ 189 #[W a, W b] w (W (a &&& b)) := by
 have sa := limbs_size a
 have sb := limbs_size b
 go_enter Tryz.func189, Tryz.ntmps189
 go_wp2_with fail
 go_loopw [6] (fun i wr => ∃ k : Nat, k ≤ 6 ∧ i = .int .i64 k ∧ Blk 60 wr w.heap.size (fillTo (limbs a) (fun i => .int .u64 (limb (a &&& b) i)) k) ∧ Blk 60 wr (w.heap.size + 1) (limbs b) ∧
   Blk 60 wr (w.heap.size + 1 + 1) (limbs 0) ∧ Below w.heap.size w wr) (fun i _ => 6 - (intOf i).toNat)
 case atStart =>
  refine ⟨0, by omega, rfl, ((Blk.new w _).alloc _).alloc _, ?_, ?_, ((((Below.refl _ _).alloc (Nat.le_refl _) _).alloc (by simp) _).alloc (by simp <;> omega) _)⟩
  ·have := (Blk.new (T := 60) (w.alloc (.cells (limbs a) 60)) (limbs b)).alloc (.cells #[.int .u64 0, .int .u64 0, .int .u64 0, .int .u64 0, .int .u64 0, .int .u64 0] 60)
   simpa using this
  ·have := Blk.new (T := 60) ((w.alloc (.cells (limbs a) 60)).alloc (.cells (limbs b) 60)) #[.int .u64 0, .int .u64 0, .int .u64 0, .int .u64 0, .int .u64 0, .int .u64 0]
   rw [limbs_zero]
   simpa using this
 case round =>
  obtain ⟨k, hk, rfl, ha, hb, hs, hbel⟩ := hrel
  by_cases hlt : k < 6
  ·have ca := ha.cell k ((fillTo_hi _ _ k k (Nat.le_refl _)).trans (limbs_get a k hlt))
   have cb := hb.cell k (limbs_get b k hlt)
   have fa := ha.free k
   go_wp2_with fail
   go_region_with (fail)
   all_goals go_wp2
   all_goals
    go_roundw
    case rel => exact ⟨k + 1, by omega, by go_num, (ha.set k _ (by rw [limb_and]; rfl)).drew, (hb.other _ _ (by simp)).drew, (hs.other _ _ (by simp; omega)).drew, (hbel.setCell (by simp) _).drew⟩
    case measure => simp [intOf]; omega
  ·have : k = 6 := by omega
   subst this
   rw [fillTo_all (limbs a) _ (a &&& b) rfl (fun i _ => rfl)] at ha
   obtain ⟨c0, c1, c2, c3, c4, c5⟩ := ha.six
   obtain ⟨d0, d1, d2, d3, d4, d5⟩ := hs.six
   obtain ⟨f0, f1, f2, f3, f4, f5⟩ := hs.six_free
   clear hb hlt
   go_wp2_with fail
   have hr := hs.store6 rfl (.int .u64 (limb (a &&& b) 0)) (.int .u64 (limb (a &&& b) 1)) (.int .u64 (limb (a &&& b) 2)) (.int .u64 (limb (a &&& b) 3)) (.int .u64 (limb (a &&& b) 4)) (.int .u64 (limb (a &&& b) 5))
   obtain ⟨r0, r1, r2, r3, r4, r5⟩ := Blk.six (a := a &&& b) hr
   exact bodyPost_ret (v := W (a &&& b)) (by simp only [results, Tryz.results189]; simp [go_sem, r0, r1, r2, r3, r4, r5, limbs]) rfl ⟨rfl, below_set6 hbel (by omega) _ _ _ _ _ _⟩
theorem pow_mono2 (b c : Nat) (h : b ≤ c) : 2 ^ b ≤ 2 ^ c := Nat.pow_le_pow_right (by decide) h
theorem top_of_pow (T b c : Nat) (h : T = 2 ^ b) (hc : b ≤ c) : T ≤ 2 ^ c := by rw [h]; exact pow_mono2 b c hc
theorem top6_le (c : Nat) (hc : 384 ≤ c) : top6 ≤ 2 ^ c := top_of_pow top6 (64 * 6) c top6.eq_1 hc
theorem mod_pow_big (a c : Nat) (h : a < top6) (hc : 384 ≤ c) : a % 2 ^ c = a := Nat.mod_eq_of_lt (Nat.lt_of_lt_of_le h (top6_le c hc))
theorem div_pow_big (a c : Nat) (h : a < top6) (hc : 384 ≤ c) : a / 2 ^ c = 0 := Nat.div_eq_of_lt (Nat.lt_of_lt_of_le h (top6_le c hc))
theorem clip_cases (x : Int) : clip x = x.toNat ∨ 384 ≤ clip x ∧ 384 ≤ x.toNat := by unfold clip; omega
theorem lostR_iff (a c : Nat) (h : a < top6) : lostR a c = !decide (a % 2 ^ c = 0) := by
 unfold lostR
 by_cases h0 : a = 0
 ·subst h0; simp
 ·obtain ⟨m, e, hl⟩ := lowN_spec a h h0
  generalize lowN a = l at *
  rw [decide_eq_false h0]
  by_cases hc : l < c
  ·have : ¬ a % 2 ^ c = 0 := by
    intro hm
    have hd : 2 ^ c * (a / 2 ^ c) = a := by have := Nat.div_add_mod a (2 ^ c); omega
    have e2 : 2 ^ l * (2 * (2 ^ (c - l - 1) * (a / 2 ^ c))) = 2 ^ l * (2 * m + 1) := by
     rw [← e, ← Nat.mul_assoc 2, ← Nat.mul_assoc]
     have : 2 ^ l * (2 * 2 ^ (c - l - 1)) = 2 ^ c := by
      rw [show (2 : Nat) * 2 ^ (c - l - 1) = 2 ^ (c - l - 1 + 1) by rw [Nat.pow_succ, Nat.mul_comm], ← Nat.pow_add]
      congr 1; omega
     rw [this, hd]
    have := Nat.eq_of_mul_eq_mul_left (Nat.two_pow_pos l) e2
    omega
   rw [decide_eq_true hc, decide_eq_false this]; rfl
  ·have : a % 2 ^ c = 0 := by
    rw [e, show l = c + (l - c) by omega, Nat.pow_add, Nat.mul_assoc, Nat.mul_mod_right]
   rw [decide_eq_false hc, decide_eq_true this]; rfl
theorem clip_min (x : Int) : clip x = min x.toNat 384 := by unfold clip; omega
theorem div_clip (a : Nat) (x : Int) (h : a < top6) : a / 2 ^ clip x = a / 2 ^ x.toNat := by
 rcases clip_cases x with e | ⟨e1, e2⟩
 ·rw [e]
 ·rw [div_pow_big a _ h e1, div_pow_big a _ h e2]
theorem lostR_clip (a : Nat) (x : Int) (h : a < top6) : lostR a (clip x) = !decide (a % 2 ^ x.toNat = 0) := by
 rw [lostR_iff a _ h]
 rcases clip_cases x with e | ⟨e1, e2⟩
 ·rw [e]
 ·rw [mod_pow_big a _ h e1, mod_pow_big a _ h e2]
theorem wideRight_n (a : Nat) (x : Int) (w : World) (ha : a < top6) (hT : Tab w) :
  CR_ 180 #[W a, .int .i64 x] w (.tuple #[W (a / 2 ^ x.toNat), .bool (!decide (a % 2 ^ x.toNat = 0))]) := by
 have := wideRight_any a x w ha hT
 rw [lostR_clip a x ha, div_clip a x ha] at this
 exact this
theorem ones_clip (x : Int) (h : x ≤ 384) : ones (clip x) = ones x.toNat := by
 rw [clip_min, Nat.min_eq_left (by omega)]
theorem and_ones (a n : Nat) : a &&& ones n = a % 2 ^ n := Nat.and_two_pow_sub_one_eq_mod a n
theorem wideMask_n (x : Int) (w : World) (hx : x ≤ 384) :
  CR_ 190 #[.int .i64 x] w (W (ones x.toNat)) := by
 have := wideMask_any x w
 rw [ones_clip x hx] at this
 exact this
theorem wideCut_n (a n : Nat) (w : World) :
  CR_ 189 #[W a, W (ones n)] w (W (a % 2 ^ n)) := by
 have := wideAnd_any a (ones n) w
 rw [and_ones] at this
 exact this
theorem testBit_big (a n : Nat) (h : a < top6) (hn : 384 ≤ n) : a.testBit n = false := Nat.testBit_lt_two_pow (Nat.lt_of_lt_of_le h (top6_le n hn))
theorem bitI_in (a m : Nat) (h : a < top6) : bitI a (m : Int) = a.testBit m := by
 unfold bitI
 by_cases hm : m < 384
 ·rw [decide_eq_true (by omega : (0 : Int) ≤ (m : Int)), decide_eq_true (by omega : (m : Int) < 384)]; simp
 ·rw [testBit_big a m h (by omega), decide_eq_false (by omega : ¬ (m : Int) < 384)]; simp
theorem jam_ret {a b : Nat} {x y : Int} {u v : Bool} (h1 : a = b) (h2 : x = y) (h3 : u = v) : Ending.returned (.tuple #[W a, .int .i64 x, .bool u]) = .returned (.tuple #[W b, .int .i64 y, .bool v]) := by rw [h1, h2, h3]
@[go_sem] theorem limbs_toList (a : Nat) : (limbs a).toList = [.int .u64 (limb a 0), .int .u64 (limb a 1), .int .u64 (limb a 2), .int .u64 (limb a 3), .int .u64 (limb a 4), .int .u64 (limb a 5)] := rfl
def put6 (w : World) (g y : Nat) : World := (((((w.setCell ⟨g, 0, none⟩ (.int .u64 (limb y 0))).setCell ⟨g, 1, none⟩ (.int .u64 (limb y 1))).setCell ⟨g, 2, none⟩ (.int .u64 (limb y 2))).setCell ⟨g, 3, none⟩ (.int .u64 (limb y 3))).setCell ⟨g, 4, none⟩ (.int .u64 (limb y 4))).setCell ⟨g, 5, none⟩ (.int .u64 (limb y 5))
theorem Blk.put6 {T : TypeId} {w : World} {g : Nat} {cs : Array Value} (h : Blk T w g cs) (hs : cs.size = 6) (y : Nat) : Blk T (put6 w g y) g (limbs y) := h.store6 hs _ _ _ _ _ _
theorem Blk.put6_other {T : TypeId} {w : World} {g k : Nat} {cs : Array Value} (h : Blk T w g cs) (y : Nat) (hne : g ≠ k) : Blk T (Go.Proofs.YtgmhmpflmgfcdaaGreatDoor.put6 w k y) g cs :=
 (((((h.other _ _ hne).other _ _ hne).other _ _ hne).other _ _ hne).other _ _ hne).other _ _ hne
theorem below_put6 {B : Nat} {w0 w : World} {g : Nat} (hb : Below B w0 w) (hg : B ≤ g) (y : Nat) : Below B w0 (put6 w g y) := below_set6 hb hg _ _ _ _ _ _
theorem put6_size (w : World) (g y : Nat) : (put6 w g y).heap.size = w.heap.size := by unfold put6; simp
theorem Blk.again {T : TypeId} {w : World} {g y : Nat} (h : Blk T w g (limbs y)) : Go.Proofs.YtgmhmpflmgfcdaaGreatDoor.put6 w g y = w := by
 unfold Go.Proofs.YtgmhmpflmgfcdaaGreatDoor.put6
 rw [h.keep 0 _ (limbs_get _ 0 (by decide)), h.keep 1 _ (limbs_get _ 1 (by decide)), h.keep 2 _ (limbs_get _ 2 (by decide)), h.keep 3 _ (limbs_get _ 3 (by decide)), h.keep 4 _ (limbs_get _ 4 (by decide)), h.keep 5 _ (limbs_get _ 5 (by decide))]
set_option maxHeartbeats 6400000 in
theorem jamCut_in (a m : Nat) (w : World) (ha : a < top6) (hT : Tab w) (hm : m < 384) :
  CR_ 122 #[W a, .int .i64 ((m : Int) + 1)] w (.tuple #[W (a / 2 ^ (m + 1)), .int .i64 (halfN a (m + 1)), .bool (decide (a % 2 ^ (m + 1) = 0))]) := by
 have sa := limbs_size a
 have HA := Lib.hid ha
 have HT := Lib.hid hT
 obtain ⟨z, hz⟩ : ∃ z, decide (a % 2 ^ m = 0) = z := ⟨_, rfl⟩
 obtain ⟨t, ht⟩ : ∃ t, a.testBit m = t := ⟨_, rfl⟩
 obtain ⟨x, hx⟩ : ∃ x, decide (a % 2 ^ (m + 1) = 0) = x := ⟨_, rfl⟩
 have HH : Hid (halfN a (m + 1) = cond t (cond z 0 1) (-1)) := by
  apply Lib.hid
  unfold halfN
  rw [if_neg (by omega), show m + 1 - 1 = m from rfl, ht, ← hz]
  cases t <;> by_cases h : a % 2 ^ m = 0 <;> simp [h]
 have eq0 := fun w => (run_equal_zero w (a % 2 ^ m) (Nat.lt_of_le_of_lt (Nat.mod_le _ _) ha)).trans (by rw [hz])
 have eq1 : ∀ w, (Op.equalIn 10000 60 (.agg (limbs (a % 2 ^ m))) (.agg #[.int .u64 0, .int .u64 0, .int .u64 0, .int .u64 0, .int .u64 0, .int .u64 0])).run Tryz.prog w = .ok z w := eq0
 have hc : min (max ((m : Int) + 1) 0) 385 = (m : Int) + 1 := by omega
 have h0 : ((m : Int) + 1 == 0) = false := by simp; omega
 have h5 : ((m : Int) + 1 == 385) = false := by simp; omega
 have hs : IntKind.i64.wrap ((m : Int) + 1 - 1) = (m : Int) := by rw [show (m : Int) + 1 - 1 = (m : Int) by omega]; exact IntWalk.i64_in _ (by omega)
 have ms : (m : Int) + 1 - 1 = (m : Int) := by omega
 have tn : ((m : Int) + 1).toNat = m + 1 := by omega
 rw [hx]
 have HX := Lib.hid hx
 clear ha hT hx hz
 cases t
 ·go_enter Tryz.func122, Tryz.ntmps122
  go_wp2_with fail
  refine (wideRight_n a _ _ HA.out (HT.out.below (((Below.refl _ _).alloc (Nat.le_refl _) _).alloc (by simp) _))).mono ?_
  rw [tn, HX.out]
  rintro e w1 ⟨rfl, hb1⟩
  have b4 : Blk 60 w1 (w.heap.size + 1) (limbs 0) := by
   rw [limbs_zero]
   have := (Blk.new (T := 60) (w.alloc (.cells (limbs a) 60)) #[.int .u64 0, .int .u64 0, .int .u64 0, .int .u64 0, .int .u64 0, .int .u64 0]).below hb1 (by simp)
   simpa using this
  have b2 : Blk 60 w1 w.heap.size (limbs a) := by
   have := ((Blk.new (T := 60) w (limbs a)).alloc (.cells #[.int .u64 0, .int .u64 0, .int .u64 0, .int .u64 0, .int .u64 0, .int .u64 0] 60)).below hb1 (by simp <;> omega)
   simpa using this
  obtain ⟨f0, f1, f2, f3, f4, f5⟩ := b4.six_free
  obtain ⟨c0, c1, c2, c3, c4, c5⟩ := b2.six
  obtain ⟨d0, d1, d2, d3, d4, d5⟩ := b4.six
  go_wp2_with fail
  refine (wideBit_any a m (put6 w1 (w.heap.size + 1) (a / 2 ^ (m + 1)))).mono ?_
  rw [bitI_in a m HA.out, ht]
  rintro e w2 ⟨rfl, hb2⟩
  have hb := (below_put6 (((((Below.refl _ _).alloc (Nat.le_refl _) _).alloc (by simp) _).trans (hb1.mono (by simp <;> omega)))) (by omega : w.heap.size ≤ w.heap.size + 1) (a / 2 ^ (m + 1))).trans (hb2.mono (by rw [put6_size]; exact Nat.le_of_lt b2.lt))
  replace b2 := (b2.put6_other (a / 2 ^ (m + 1)) (show w.heap.size ≠ w.heap.size + 1 by omega)).below hb2 (by rw [put6_size]; exact b2.lt)
  replace b4 := (b4.put6 rfl (a / 2 ^ (m + 1))).below hb2 (by rw [put6_size]; exact b4.lt)
  clear f0 f1 f2 f3 f4 f5 c0 c1 c2 c3 c4 c5 d0 d1 d2 d3 d4 d5
  clear hb1 hb2
  obtain ⟨f0, f1, f2, f3, f4, f5⟩ := b4.six_free
  obtain ⟨d0, d1, d2, d3, d4, d5⟩ := b4.six
  go_wp2_with fail
  have hk := b4.again
  unfold put6 at hk
  rw [hk]
  exact bodyPost_ret (v := .tuple #[W (a / 2 ^ (m + 1)), .int .i64 (-1), .bool x]) v1_ rfl ⟨jam_ret rfl (by rw [HH.out]; rfl) rfl, hb⟩
 ·go_enter Tryz.func122, Tryz.ntmps122
  go_wp2_with fail
  refine (wideRight_n a _ _ HA.out (HT.out.below (((Below.refl _ _).alloc (Nat.le_refl _) _).alloc (by simp) _))).mono ?_
  rw [tn, HX.out]
  rintro e w1 ⟨rfl, hb1⟩
  have b4 : Blk 60 w1 (w.heap.size + 1) (limbs 0) := by
   rw [limbs_zero]
   have := (Blk.new (T := 60) (w.alloc (.cells (limbs a) 60)) #[.int .u64 0, .int .u64 0, .int .u64 0, .int .u64 0, .int .u64 0, .int .u64 0]).below hb1 (by simp)
   simpa using this
  have b2 : Blk 60 w1 w.heap.size (limbs a) := by
   have := ((Blk.new (T := 60) w (limbs a)).alloc (.cells #[.int .u64 0, .int .u64 0, .int .u64 0, .int .u64 0, .int .u64 0, .int .u64 0] 60)).below hb1 (by simp <;> omega)
   simpa using this
  obtain ⟨f0, f1, f2, f3, f4, f5⟩ := b4.six_free
  obtain ⟨c0, c1, c2, c3, c4, c5⟩ := b2.six
  obtain ⟨d0, d1, d2, d3, d4, d5⟩ := b4.six
  go_wp2_with fail
  refine (wideBit_any a m (put6 w1 (w.heap.size + 1) (a / 2 ^ (m + 1)))).mono ?_
  rw [bitI_in a m HA.out, ht]
  rintro e w2 ⟨rfl, hb2⟩
  have hb := (below_put6 (((((Below.refl _ _).alloc (Nat.le_refl _) _).alloc (by simp) _).trans (hb1.mono (by simp <;> omega)))) (by omega : w.heap.size ≤ w.heap.size + 1) (a / 2 ^ (m + 1))).trans (hb2.mono (by rw [put6_size]; exact Nat.le_of_lt b2.lt))
  replace b2 := (b2.put6_other (a / 2 ^ (m + 1)) (show w.heap.size ≠ w.heap.size + 1 by omega)).below hb2 (by rw [put6_size]; exact b2.lt)
  replace b4 := (b4.put6 rfl (a / 2 ^ (m + 1))).below hb2 (by rw [put6_size]; exact b4.lt)
  clear f0 f1 f2 f3 f4 f5 c0 c1 c2 c3 c4 c5 d0 d1 d2 d3 d4 d5
  clear hb1 hb2
  obtain ⟨f0, f1, f2, f3, f4, f5⟩ := b4.six_free
  obtain ⟨d0, d1, d2, d3, d4, d5⟩ := b4.six
  obtain ⟨c0, c1, c2, c3, c4, c5⟩ := b2.six
  go_wp2_with fail
  have l2 := b2.lt
  have m4 : (m : Int) ≤ 384 := by omega
  have wm : IntKind.i64.wrap (m : Int) = (m : Int) := IntWalk.i64_in _ (by omega)
  have b2 := b2.drew
  have hb := hb.drew
  clear hm ms tn h0 h5 hc
  go_region_held3 (fun w' => w'.cell? ⟨w.heap.size, 0, none⟩ = some (.int .u64 (limb a 0)) ∧ w'.cell? ⟨w.heap.size, 1, none⟩ = some (.int .u64 (limb a 1)) ∧ w'.cell? ⟨w.heap.size, 2, none⟩ = some (.int .u64 (limb a 2)) ∧ w'.cell? ⟨w.heap.size, 3, none⟩ = some (.int .u64 (limb a 3)) ∧ w'.cell? ⟨w.heap.size, 4, none⟩ = some (.int .u64 (limb a 4)) ∧ w'.cell? ⟨w.heap.size, 5, none⟩ = some (.int .u64 (limb a 5))) (first | exact ⟨c0, c1, c2, c3, c4, c5⟩ | exact ⟨g0, g1, g2, g3, g4, g5⟩ | exact ⟨k0, k1, k2, k3, k4, k5⟩)
   (first
   | (go_at_call 190; refine (wideMask_n (m : Int) _ m4).mono ?_; rw [Int.toNat_natCast]; rintro e w3 ⟨rfl, hb3⟩; obtain ⟨g0, g1, g2, g3, g4, g5⟩ := (b2.below hb3 b2.lt).six)
   | (go_at_call 189; refine (wideCut_n a m _).mono ?_; rintro e w4 ⟨rfl, hb4⟩; obtain ⟨k0, k1, k2, k3, k4, k5⟩ := ((b2.below hb3 b2.lt).below hb4 (b2.below hb3 b2.lt).lt).six))
  all_goals
   replace hb := (hb.trans (hb3.mono (Nat.le_of_lt b2.lt))).trans (hb4.mono (Nat.le_of_lt (b2.below hb3 b2.lt).lt))
   replace b4 := ((b4.drew.below hb3 b4.lt).below hb4 (b4.drew.below hb3 b4.lt).lt)
   clear f0 f1 f2 f3 f4 f5 d0 d1 d2 d3 d4 d5 c0 c1 c2 c3 c4 c5 g0 g1 g2 g3 g4 g5 k0 k1 k2 k3 k4 k5 hb3 hb4
   obtain ⟨f0, f1, f2, f3, f4, f5⟩ := b4.six_free
   obtain ⟨d0, d1, d2, d3, d4, d5⟩ := b4.six
   cases z
   ·go_wp2_with fail
    have hk := b4.again
    unfold put6 at hk
    rw [hk]
    exact bodyPost_ret (v := .tuple #[W (a / 2 ^ (m + 1)), .int .i64 1, .bool x]) v1_ rfl ⟨jam_ret rfl (by rw [HH.out]; rfl) rfl, hb⟩
   ·go_wp2_with fail
    have hk := b4.again
    unfold put6 at hk
    rw [hk]
    exact bodyPost_ret (v := .tuple #[W (a / 2 ^ (m + 1)), .int .i64 0, .bool x]) v1_ rfl ⟨jam_ret rfl (by rw [HH.out]; rfl) rfl, hb⟩
theorem wideRight_zero (a : Nat) (w : World) (ha : a < top6) (hT : Tab w) :
  CR_ 180 #[W a, .int .i64 0] w (.tuple #[W a, .bool false]) := by
 have := wideRight_n a 0 w ha hT
 rw [show (0 : Int).toNat = 0 from rfl, Nat.pow_zero, Nat.div_one, Nat.mod_one, decide_eq_true rfl] at this
 exact this
theorem wideRight_big (a : Nat) (w : World) (ha : a < top6) (hT : Tab w) :
  CR_ 180 #[W a, .int .i64 385] w (.tuple #[W 0, .bool (!decide (a = 0))]) := by
 obtain ⟨x, hx⟩ : ∃ x : Int, x = 385 := ⟨_, rfl⟩
 have := wideRight_n a x w ha hT
 rw [div_pow_big a _ ha (by omega), mod_pow_big a _ ha (by omega), hx] at this
 exact this
set_option maxHeartbeats 6400000 in
theorem jamCut_zero (a : Nat) (x : Int) (w : World) (ha : a < top6) (hT : Tab w) (hc : min (max x 0) 385 = 0) :
  CR_ 122 #[W a, .int .i64 x] w (.tuple #[W (a), .int .i64 (-1), .bool (true)]) := by
 have sa := limbs_size a
 have HA := Lib.hid ha
 have HT := Lib.hid hT
 clear ha hT
 go_enter Tryz.func122, Tryz.ntmps122
 go_wp2_with fail
 refine (wideRight_zero a _ HA.out (HT.out.below (((Below.refl _ _).alloc (Nat.le_refl _) _).alloc (by simp) _))).mono ?_
 rintro e w1 ⟨rfl, hb1⟩
 have b4 : Blk 60 w1 (w.heap.size + 1) (limbs 0) := by
  rw [limbs_zero]
  have := (Blk.new (T := 60) (w.alloc (.cells (limbs a) 60)) #[.int .u64 0, .int .u64 0, .int .u64 0, .int .u64 0, .int .u64 0, .int .u64 0]).below hb1 (by simp)
  simpa using this
 obtain ⟨f0, f1, f2, f3, f4, f5⟩ := b4.six_free
 obtain ⟨d0, d1, d2, d3, d4, d5⟩ := b4.six
 go_upto_region 3 with (fail)
 have hb := below_put6 (((((Below.refl w.heap.size w).alloc (Nat.le_refl _) _).alloc (by simp) _).trans (hb1.mono (by simp <;> omega)))) (by omega : w.heap.size ≤ w.heap.size + 1) (a)
 replace b4 := b4.put6 rfl (a)
 clear f0 f1 f2 f3 f4 f5 d0 d1 d2 d3 d4 d5 hb1
 change Code.wp _ _ _ _ (put6 w1 (w.heap.size + 1) (a))
 generalize put6 w1 (w.heap.size + 1) (a) = u at *
 obtain ⟨f0, f1, f2, f3, f4, f5⟩ := b4.six_free
 obtain ⟨d0, d1, d2, d3, d4, d5⟩ := b4.six
 go_wp2_with fail
 have hk := b4.again
 unfold put6 at hk
 rw [hk]
 exact bodyPost_ret (v := .tuple #[W (a), .int .i64 (-1), .bool (true)]) v1_ rfl ⟨rfl, hb⟩
set_option maxHeartbeats 6400000 in
theorem jamCut_big (a : Nat) (x : Int) (w : World) (ha : a < top6) (hT : Tab w) (hc : min (max x 0) 385 = 385) :
  CR_ 122 #[W a, .int .i64 x] w (.tuple #[W (0), .int .i64 (-1), .bool (decide (a = 0))]) := by
 have sa := limbs_size a
 have HA := Lib.hid ha
 have HT := Lib.hid hT
 obtain ⟨z, hz⟩ : ∃ z, decide (a = 0) = z := ⟨_, rfl⟩
 rw [hz]
 clear ha hT
 go_enter Tryz.func122, Tryz.ntmps122
 go_wp2_with fail
 refine (wideRight_big a _ HA.out (HT.out.below (((Below.refl _ _).alloc (Nat.le_refl _) _).alloc (by simp) _))).mono ?_
 rw [hz]
 rintro e w1 ⟨rfl, hb1⟩
 have b4 : Blk 60 w1 (w.heap.size + 1) (limbs 0) := by
  rw [limbs_zero]
  have := (Blk.new (T := 60) (w.alloc (.cells (limbs a) 60)) #[.int .u64 0, .int .u64 0, .int .u64 0, .int .u64 0, .int .u64 0, .int .u64 0]).below hb1 (by simp)
  simpa using this
 obtain ⟨f0, f1, f2, f3, f4, f5⟩ := b4.six_free
 obtain ⟨d0, d1, d2, d3, d4, d5⟩ := b4.six
 go_upto_region 3 with (fail)
 have hb := below_put6 (((((Below.refl w.heap.size w).alloc (Nat.le_refl _) _).alloc (by simp) _).trans (hb1.mono (by simp <;> omega)))) (by omega : w.heap.size ≤ w.heap.size + 1) (0)
 replace b4 := b4.put6 rfl (0)
 clear f0 f1 f2 f3 f4 f5 d0 d1 d2 d3 d4 d5 hb1
 change Code.wp _ _ _ _ (put6 w1 (w.heap.size + 1) (0))
 generalize put6 w1 (w.heap.size + 1) (0) = u at *
 obtain ⟨f0, f1, f2, f3, f4, f5⟩ := b4.six_free
 obtain ⟨d0, d1, d2, d3, d4, d5⟩ := b4.six
 go_wp2_with fail
 have hk := b4.again
 unfold put6 at hk
 rw [hk]
 exact bodyPost_ret (v := .tuple #[W (0), .int .i64 (-1), .bool (z)]) v1_ rfl ⟨rfl, hb⟩
theorem jamCut_any (a : Nat) (x : Int) (w : World) (ha : a < top6) (hT : Tab w) :
  CR_ 122 #[W a, .int .i64 x] w (.tuple #[W (a / 2 ^ x.toNat), .int .i64 (halfN a x.toNat), .bool (decide (a % 2 ^ x.toNat = 0))]) := by
 by_cases h0 : x ≤ 0
 ·have := jamCut_zero a x w ha hT (by omega)
  rw [show x.toNat = 0 by omega, Nat.pow_zero, Nat.div_one, Nat.mod_one]
  exact this
 ·by_cases h1 : x ≤ 384
  ·have := jamCut_in a (x.toNat - 1) w ha hT (by omega)
   rw [show ((x.toNat - 1 : Nat) : Int) + 1 = x by omega, show x.toNat - 1 + 1 = x.toNat by omega] at this
   exact this
  ·have := jamCut_big a x w ha hT (by omega)
   rw [div_pow_big a _ ha (by omega), mod_pow_big a _ ha (by omega)]
   unfold halfN
   rw [if_neg (by omega), testBit_big a _ ha (by omega)]
   exact this
theorem belowN {B : Nat} {a w : World} (h : Below B a w) (n : Nat) : Below B a (w.drewN n) := h.trans ⟨rfl, rfl, rfl, Nat.le_refl _, fun _ _ => rfl⟩
theorem shapeNumbers_0 (w : World) :
  CR_ 160 #[.int .u8 0] w (.tuple #[.int .i64 (wF 0 : Nat), .int .i64 (pF 0 : Nat), .int .i64 (eF 0 : Nat), .string ⟨nameF 0⟩]) := by
 go_enter Tryz.func160, Tryz.ntmps160
 go_wp2_with fail
 go_quiet (fail)
 go_wp2
 exact bodyPost_ret (by simp [results, Tryz.results160, go_sem] <;> exact ⟨rfl, rfl, rfl, rfl⟩) rfl ⟨rfl, belowN ((Below.refl _ _).alloc (Nat.le_refl _) _) _⟩
theorem shapeNumbers_1 (w : World) :
  CR_ 160 #[.int .u8 1] w (.tuple #[.int .i64 (wF 1 : Nat), .int .i64 (pF 1 : Nat), .int .i64 (eF 1 : Nat), .string ⟨nameF 1⟩]) := by
 go_enter Tryz.func160, Tryz.ntmps160
 go_wp2_with fail
 go_quiet (fail)
 go_wp2
 exact bodyPost_ret (by simp [results, Tryz.results160, go_sem] <;> exact ⟨rfl, rfl, rfl, rfl⟩) rfl ⟨rfl, belowN ((Below.refl _ _).alloc (Nat.le_refl _) _) _⟩
theorem shapeNumbers_2 (w : World) :
  CR_ 160 #[.int .u8 2] w (.tuple #[.int .i64 (wF 2 : Nat), .int .i64 (pF 2 : Nat), .int .i64 (eF 2 : Nat), .string ⟨nameF 2⟩]) := by
 go_enter Tryz.func160, Tryz.ntmps160
 go_wp2_with fail
 go_quiet (fail)
 go_wp2
 exact bodyPost_ret (by simp [results, Tryz.results160, go_sem] <;> exact ⟨rfl, rfl, rfl, rfl⟩) rfl ⟨rfl, belowN ((Below.refl _ _).alloc (Nat.le_refl _) _) _⟩
theorem shapeNumbers_3 (w : World) :
  CR_ 160 #[.int .u8 3] w (.tuple #[.int .i64 (wF 3 : Nat), .int .i64 (pF 3 : Nat), .int .i64 (eF 3 : Nat), .string ⟨nameF 3⟩]) := by
 go_enter Tryz.func160, Tryz.ntmps160
 go_wp2_with fail
 go_quiet (fail)
 go_wp2
 exact bodyPost_ret (by simp [results, Tryz.results160, go_sem] <;> exact ⟨rfl, rfl, rfl, rfl⟩) rfl ⟨rfl, belowN ((Below.refl _ _).alloc (Nat.le_refl _) _) _⟩
theorem shapeNumbers_4 (f : Nat) (w : World) (h : 4 ≤ f) (hf : f < 256) :
  CR_ 160 #[.int .u8 f] w (.tuple #[.int .i64 0, .int .i64 0, .int .i64 0, .string ⟨#[]⟩]) := by
 have h4 : (4 : Int) ≤ (f : Int) := by omega
 have h6 : (f : Int) < 256 := by omega
 go_enter Tryz.func160, Tryz.ntmps160
 go_wp2
 exact bodyPost_ret (by simp [results, Tryz.results160, go_sem]) rfl ⟨rfl, (Below.refl _ _).alloc (Nat.le_refl _) _⟩
theorem shapeNumbers_any (f : Nat) (w : World) (hf : f < 256) :
  CR_ 160 #[.int .u8 f] w (.tuple #[.int .i64 (wF f : Nat), .int .i64 (pF f : Nat), .int .i64 (eF f : Nat), .string ⟨nameF f⟩]) := by
 rcases forms f with rfl | rfl | rfl | rfl | h
 ·exact shapeNumbers_0 w
 ·exact shapeNumbers_1 w
 ·exact shapeNumbers_2 w
 ·exact shapeNumbers_3 w
 ·obtain ⟨e1, e2, e3, e4⟩ := wF_big f h
  rw [e1, e2, e3, e4]
  exact shapeNumbers_4 f w h hf
theorem shapeWidth_any (f : Nat) (w : World) (hf : f < 256) :
  CR_ 177 #[.int .u8 f] w (.int .i64 (wF f : Nat)) := by
 go_enter Tryz.func177, Tryz.ntmps177
 go_wp2_with fail
 refine (shapeNumbers_any f _ hf).mono ?_
 rintro e w' ⟨rfl, hb⟩
 go_wp2
 go_ret
 exact ⟨rfl, hb⟩
theorem shapePrecision_any (f : Nat) (w : World) (hf : f < 256) :
  CR_ 79 #[.int .u8 f] w (.int .i64 (pF f : Nat)) := by
 go_enter Tryz.func79, Tryz.ntmps79
 go_wp2_with fail
 refine (shapeNumbers_any f _ hf).mono ?_
 rintro e w' ⟨rfl, hb⟩
 go_wp2
 go_ret
 exact ⟨rfl, hb⟩
theorem shapeEmax_any (f : Nat) (w : World) (hf : f < 256) :
  CR_ 142 #[.int .u8 f] w (.int .i64 (eF f : Nat)) := by
 go_enter Tryz.func142, Tryz.ntmps142
 go_wp2_with fail
 refine (shapeNumbers_any f _ hf).mono ?_
 rintro e w' ⟨rfl, hb⟩
 go_wp2
 go_ret
 exact ⟨rfl, hb⟩
theorem shapeCheck_any (f : Nat) (w : World) (hf : f < 256) :
  Calls Tryz.prog 154 #[.int .u8 f] w fun e w' => e = .returned (.int .i64 (cond (decide (f < 4)) 0 2)) ∧ w = w' := by
 by_cases h : f < 4
 ·have h4 : ¬ (3 : Int) < (f : Int) := by omega
  rw [decide_eq_true h]
  go_enter Tryz.func154, Tryz.ntmps154
  go_wp2
  go_ret
  exact ⟨rfl, rfl⟩
 ·have h4 : (3 : Int) < (f : Int) := by omega
  rw [decide_eq_false h]
  go_enter Tryz.func154, Tryz.ntmps154
  go_wp2
  go_ret
  exact ⟨rfl, rfl⟩
theorem shapeCheckMode_any (f : Nat) (w : World) (hf : f < 256) :
  Calls Tryz.prog 121 #[.int .u8 f] w fun e w' => e = .returned (.int .i64 (cond (decide (f < 5)) 0 2)) ∧ w = w' := by
 by_cases h : f < 5
 ·have h4 : ¬ (4 : Int) < (f : Int) := by omega
  rw [decide_eq_true h]
  go_enter Tryz.func121, Tryz.ntmps121
  go_wp2
  go_ret
  exact ⟨rfl, rfl⟩
 ·have h4 : (4 : Int) < (f : Int) := by omega
  rw [decide_eq_false h]
  go_enter Tryz.func121, Tryz.ntmps121
  go_wp2
  go_ret
  exact ⟨rfl, rfl⟩
theorem shapeEmin_any (f : Nat) (w : World) (hf : f < 256) :
  CR_ 141 #[.int .u8 f] w (.int .i64 (eminI f)) := by
 unfold eminI
 have he := eF_le f
 have wr : IntKind.i64.wrap (1 - (eF f : Nat)) = 1 - ((eF f : Nat) : Int) := IntWalk.i64_in _ (by omega)
 by_cases h : f < 4
 ·rw [decide_eq_true h]
  go_enter Tryz.func141, Tryz.ntmps141
  go_wp2_with fail
  refine (shapeCheck_any f _ hf).mono ?_
  rw [decide_eq_true h]
  rintro e w' ⟨rfl, rfl⟩
  go_wp2_with fail
  refine (shapeEmax_any f _ hf).mono ?_
  rintro e w' ⟨rfl, hb⟩
  go_wp2
  go_ret
  exact ⟨rfl, hb⟩
 ·rw [decide_eq_false h]
  go_enter Tryz.func141, Tryz.ntmps141
  go_wp2_with fail
  refine (shapeCheck_any f _ hf).mono ?_
  rw [decide_eq_false h]
  rintro e w' ⟨rfl, rfl⟩
  go_wp2
  go_ret
  exact ⟨rfl, Below.refl _ _⟩
theorem hi_zero (b : Nat) (h : b < 2 ^ 128) : (limb b 1 == 0) = decide (b < 2 ^ 64) := by
 unfold limb limbN
 rw [Bool.eq_iff_iff, beq_iff_eq, decide_eq_true_iff]
 rw [show 64 * 1 = 64 from rfl]
 omega
theorem lo_small (b s : Nat) (h : b < 2 ^ 64) (hs : s = 32 ∨ s = 16) : (limb b 0 / 2 ^ s == 0) = decide (b < 2 ^ s) := by
 unfold limb limbN
 rw [Bool.eq_iff_iff, beq_iff_eq, decide_eq_true_iff]
 rcases hs with rfl | rfl <;> omega
theorem shapeWidth_0 (w : World) : CR_ 177 #[.int .u8 0] w (.int .i64 32) := shapeWidth_any 0 w (by decide)
theorem shapeFits_0a (b : Nat) (w : World) (h1 : (limb b 1 == 0) = false) :
  CR_ 92 #[.int .u8 0, BV b] w (.bool false) := by
 go_enter Tryz.func92, Tryz.ntmps92
 go_wp2_with fail
 go_region
 all_goals go_wp2
 all_goals go_ret
 all_goals exact ⟨rfl, belowN ((Below.refl _ _).alloc (Nat.le_refl _) _) _⟩
theorem shapeFits_0b (b : Nat) (w : World) (l : Bool) (h1 : (limb b 1 == 0) = true) (h2 : (limb b 0 / 2 ^ 32 == 0) = l) :
  CR_ 92 #[.int .u8 0, BV b] w (.bool l) := by
 go_enter Tryz.func92, Tryz.ntmps92
 go_wp2_with fail
 have c0 : (w.alloc (.cells #[.int .u64 (limb b 1), .int .u64 (limb b 0)] 27 (0, 0))).cell? ⟨w.heap.size, 0, none⟩ = some (.int .u64 (limb b 1)) := by go_simp
 have c1 : (w.alloc (.cells #[.int .u64 (limb b 1), .int .u64 (limb b 0)] 27 (0, 0))).cell? ⟨w.heap.size, 1, none⟩ = some (.int .u64 (limb b 0)) := by go_simp
 go_region_held3 (fun w' => w'.cell? ⟨w.heap.size, 0, none⟩ = some (.int .u64 (limb b 1)) ∧ w'.cell? ⟨w.heap.size, 1, none⟩ = some (.int .u64 (limb b 0))) (first | exact ⟨c0, c1⟩ | exact ⟨g0, g1⟩)
  (first | (go_at_call 177; refine (shapeWidth_0 _).mono ?_; rintro e w3 ⟨rfl, hb3⟩; have g0 := (hb3.cell (p := ⟨w.heap.size, 0, none⟩) (by simp)).trans c0; have g1 := (hb3.cell (p := ⟨w.heap.size, 1, none⟩) (by simp)).trans c1))
 all_goals
  replace hb3 := (((Below.refl w.heap.size w).alloc (Nat.le_refl _) (.cells #[.int .u64 (limb b 1), .int .u64 (limb b 0)] 27 (0, 0))).drew).trans (hb3.mono (by simp))
  go_wp2
 all_goals go_ret
 all_goals exact ⟨ret_bool (by rw [show min (IntKind.u64.wrap 32).toNat 64 = 32 from by decide]; exact h2), by first | exact hb3 | exact hb3.drew | exact belowN hb3 _⟩
theorem shapeWidth_2 (w : World) : CR_ 177 #[.int .u8 2] w (.int .i64 16) := shapeWidth_any 2 w (by decide)
theorem shapeFits_2a (b : Nat) (w : World) (h1 : (limb b 1 == 0) = false) :
  CR_ 92 #[.int .u8 2, BV b] w (.bool false) := by
 go_enter Tryz.func92, Tryz.ntmps92
 go_wp2_with fail
 go_region
 all_goals go_wp2
 all_goals go_ret
 all_goals exact ⟨rfl, belowN ((Below.refl _ _).alloc (Nat.le_refl _) _) _⟩
theorem shapeFits_2b (b : Nat) (w : World) (l : Bool) (h1 : (limb b 1 == 0) = true) (h2 : (limb b 0 / 2 ^ 16 == 0) = l) :
  CR_ 92 #[.int .u8 2, BV b] w (.bool l) := by
 go_enter Tryz.func92, Tryz.ntmps92
 go_wp2_with fail
 have c0 : (w.alloc (.cells #[.int .u64 (limb b 1), .int .u64 (limb b 0)] 27 (0, 0))).cell? ⟨w.heap.size, 0, none⟩ = some (.int .u64 (limb b 1)) := by go_simp
 have c1 : (w.alloc (.cells #[.int .u64 (limb b 1), .int .u64 (limb b 0)] 27 (0, 0))).cell? ⟨w.heap.size, 1, none⟩ = some (.int .u64 (limb b 0)) := by go_simp
 go_region_held3 (fun w' => w'.cell? ⟨w.heap.size, 0, none⟩ = some (.int .u64 (limb b 1)) ∧ w'.cell? ⟨w.heap.size, 1, none⟩ = some (.int .u64 (limb b 0))) (first | exact ⟨c0, c1⟩ | exact ⟨g0, g1⟩)
  (first | (go_at_call 177; refine (shapeWidth_2 _).mono ?_; rintro e w3 ⟨rfl, hb3⟩; have g0 := (hb3.cell (p := ⟨w.heap.size, 0, none⟩) (by simp)).trans c0; have g1 := (hb3.cell (p := ⟨w.heap.size, 1, none⟩) (by simp)).trans c1))
 all_goals
  replace hb3 := (((Below.refl w.heap.size w).alloc (Nat.le_refl _) (.cells #[.int .u64 (limb b 1), .int .u64 (limb b 0)] 27 (0, 0))).drew).trans (hb3.mono (by simp))
  go_wp2
 all_goals go_ret
 all_goals exact ⟨ret_bool (by rw [show min (IntKind.u64.wrap 16).toNat 64 = 16 from by decide]; exact h2), by first | exact hb3 | exact hb3.drew | exact belowN hb3 _⟩
theorem shapeFits_1 (b : Nat) (w : World) (l : Bool) (h1 : (limb b 1 == 0) = l) :
  CR_ 92 #[.int .u8 1, BV b] w (.bool l) := by
 go_enter Tryz.func92, Tryz.ntmps92
 go_wp2
 go_ret
 exact ⟨rfl, (Below.refl _ _).alloc (Nat.le_refl _) _⟩
theorem shapeFits_3 (b : Nat) (w : World) :
  CR_ 92 #[.int .u8 3, BV b] w (.bool true) := by
 go_enter Tryz.func92, Tryz.ntmps92
 go_wp2
 go_ret
 exact ⟨rfl, (Below.refl _ _).alloc (Nat.le_refl _) _⟩
theorem shapeFits_4 (f b : Nat) (w : World) (h : 4 ≤ f) :
  CR_ 92 #[.int .u8 f, BV b] w (.bool false) := by
 have e0 : ((f : Int) == 0) = false := by simp; omega
 have e1 : ((f : Int) == 1) = false := by simp; omega
 have e2 : ((f : Int) == 2) = false := by simp; omega
 have e3 : ((f : Int) == 3) = false := by simp; omega
 have h4 : (4 : Int) ≤ (f : Int) := by omega
 go_enter Tryz.func92, Tryz.ntmps92
 go_wp2
 go_ret
 exact ⟨rfl, (Below.refl _ _).alloc (Nat.le_refl _) _⟩
theorem shapeFits_any (f b : Nat) (w : World) (hb : b < 2 ^ 128) :
  CR_ 92 #[.int .u8 f, BV b] w (.bool (fitsB f b)) := by
 have h1 := hi_zero b hb
 rcases forms f with rfl | rfl | rfl | rfl | h
 ·by_cases h : b < 2 ^ 64
  ·rw [decide_eq_true h] at h1
   have := shapeFits_0b b w _ h1 (lo_small b 32 h (by omega))
   rw [show fitsB 0 b = decide (b < 2 ^ 32) by simp [fitsB, wF]]
   exact this
  ·rw [decide_eq_false h] at h1
   rw [show fitsB 0 b = false by simp [fitsB, wF]; omega]
   exact shapeFits_0a b w h1
 ·rw [show fitsB 1 b = decide (b < 2 ^ 64) by simp [fitsB, wF]]
  exact shapeFits_1 b w _ h1
 ·by_cases h : b < 2 ^ 64
  ·rw [decide_eq_true h] at h1
   have := shapeFits_2b b w _ h1 (lo_small b 16 h (by omega))
   rw [show fitsB 2 b = decide (b < 2 ^ 16) by simp [fitsB, wF]]
   exact this
  ·rw [decide_eq_false h] at h1
   rw [show fitsB 2 b = false by simp [fitsB, wF]; omega]
   exact shapeFits_2a b w h1
 ·rw [show fitsB 3 b = true by simp [fitsB, wF]; omega]
  exact shapeFits_3 b w
 ·rw [show fitsB f b = false by simp [fitsB]; omega]
  exact shapeFits_4 f b w h
theorem exp_bits (x d : Nat) (hx : x < 18446744073709551616) (hd : d ≤ 15) :
  Go.bits .and .i64 (IntKind.i64.wrap (x : Int)) (IntKind.i64.wrap (IntKind.i64.wrap (2 ^ d) - 1)) = ((x % 2 ^ d : Nat) : Int) := by
 have y1 : 2 ^ d ≤ 2 ^ 15 := Nat.pow_le_pow_right (by decide) hd
 have y0 := Nat.two_pow_pos d
 have e : IntKind.i64.wrap (IntKind.i64.wrap ((2 : Int) ^ d) - 1) = ((2 ^ d - 1 : Nat) : Int) := by
  rw [show (2 : Int) ^ d = ((2 ^ d : Nat) : Int) by simp, IntKind.wrap_i64, IntKind.wrap_i64]
  generalize 2 ^ d = y at *
  omega
 rw [e]
 show IntKind.i64.wrap ((BitVec.ofInt 64 (IntKind.i64.wrap (x : Int)) &&& BitVec.ofInt 64 ((2 ^ d - 1 : Nat) : Int)).toNat : Nat) = _
 have hm : 2 ^ d - 1 < 18446744073709551616 := by omega
 rw [BitVec.toNat_and, ofInt_u64 _ hm, BitVec.toNat_ofInt, Nat.and_two_pow_sub_one_eq_mod, IntKind.wrap_i64, IntKind.wrap_i64]
 have : (((x : Int) + 9223372036854775808) % 18446744073709551616 - 9223372036854775808) % ((2 ^ 64 : Nat) : Int) = (x : Int) := by omega
 rw [this, Int.toNat_natCast]
 have := Nat.mod_lt x y0
 generalize x % 2 ^ d = z at *
 generalize 2 ^ d = y at *
 omega
theorem limb_low (y d : Nat) (hd : d ≤ 15) : limbN y 0 % 2 ^ d = y % 2 ^ d := by
 unfold limbN
 rw [Nat.mul_zero, Nat.pow_zero, Nat.div_one, B64]
 exact Nat.mod_mod_of_dvd _ (Nat.pow_dvd_pow 2 (by omega))
theorem field_exp (y d : Nat) (hd : d ≤ 15) : Go.bits .and .i64 (IntKind.i64.wrap (limb y 0)) (IntKind.i64.wrap (IntKind.i64.wrap (2 ^ d) - 1)) = ((y % 2 ^ d : Nat) : Int) := by
 unfold limb
 rw [exp_bits _ d (limbN_lt y 0) hd, limb_low y d hd]
theorem lt_top_bits (b : Nat) (h : b < 2 ^ (64 * 2)) : b < top6 := Nat.lt_of_lt_of_le h (by unfold top6; exact pw_mono 2 6 (by decide))
set_option maxHeartbeats 6400000 in
theorem kindFields_any (f b : Nat) (w : World) (hf : f < 4) (hb : b < 2 ^ (64 * 2)) (hT : Tab w) :
  CR_ 187 #[.int .u8 f, BV b] w (.tuple #[.bool (b.testBit (wF f - 1)), .int .i64 (expN f b : Nat), W (b % 2 ^ (pF f - 1))]) := by
 obtain ⟨p1, p2, n1, n2, np1, np2⟩ := formB f hf
 have cP := fun w => shapePrecision_any f w (by omega)
 have cW := fun w => shapeWidth_any f w (by omega)
 unfold expN
 generalize pF f = p at *
 generalize wF f = n at *
 obtain ⟨q, hq⟩ : ∃ q, p - 1 = q := ⟨_, rfl⟩
 obtain ⟨r, hr⟩ : ∃ r, n - 1 = r := ⟨_, rfl⟩
 obtain ⟨d, hd⟩ : ∃ d, n - p = d := ⟨_, rfl⟩
 rw [hq, hr, hd]
 have HT := Lib.hid hT
 have HB := Lib.hid hb
 clear hT hb
 have vp : IntKind.i64.wrap ((p : Int) - 1) = (q : Int) := by rw [show (p : Int) - 1 = (q : Int) by omega]; exact IntWalk.i64_in _ (by omega)
 have vn : IntKind.i64.wrap ((n : Int) - 1) = (r : Int) := by rw [show (n : Int) - 1 = (r : Int) by omega]; exact IntWalk.i64_in _ (by omega)
 have vd : IntKind.i64.wrap ((n : Int) - (p : Int)) = (d : Int) := by rw [show (n : Int) - (p : Int) = (d : Int) by omega]; exact IntWalk.i64_in _ (by omega)
 have ep : ((p : Int) - 1).toNat = q := by omega
 have q4 : (q : Int) ≤ 384 := by omega
 have d15 : d ≤ 15 := by omega
 go_enter Tryz.func187, Tryz.ntmps187
 go_wp2_with fail
 refine (wideOfBits_any b _ HB.out).mono ?_
 rintro e w1 ⟨rfl, hb1⟩
 go_wp2_with fail
 refine (cP _).mono ?_
 rintro e w2 ⟨rfl, hb2⟩
 go_wp2_with fail
 refine (cW _).mono ?_
 rintro e w3 ⟨rfl, hb3⟩
 have b6 : Blk 60 w3 (w.heap.size + 1) (limbs 0) := by
  have h1 : Blk 60 w1 (w.heap.size + 1) (limbs 0) := by
   rw [limbs_zero]
   have := (Blk.new (T := 60) (w.alloc (.cells #[.int .u64 (limb b 1), .int .u64 (limb b 0)] 27)) #[.int .u64 0, .int .u64 0, .int .u64 0, .int .u64 0, .int .u64 0, .int .u64 0]).below hb1 (by simp)
   simpa using this
  exact ((h1.alloc _).below hb2 (by have := h1.lt; simp; omega)).below hb3 (by have := h1.lt; have := hb2.size; simp at this; omega)
 have b7 : Blk 60 w3 w1.heap.size (limbs b) := ((Blk.new w1 (limbs b)).below hb2 (by simp)).below hb3 (by have := hb2.size; simp at this; omega)
 have hbw : Below w.heap.size w w3 := by
  have hs1 := hb1.size
  have hs2 := hb2.size
  simp at hs1 hs2
  exact ((((((Below.refl _ _).alloc (Nat.le_refl _) _).alloc (by simp) _).trans (hb1.mono (by simp <;> omega))).alloc (by omega) _).trans (hb2.mono (by simp; omega))).trans (hb3.mono (by omega))
 have hT3 := Lib.hid (HT.out.below hbw)
 obtain ⟨f0, f1, f2, f3, f4, f5⟩ := b6.six_free
 obtain ⟨d0, d1, d2, d3, d4, d5⟩ := b6.six
 obtain ⟨c0, c1, c2, c3, c4, c5⟩ := b7.six
 go_wp2_with fail
 have ne : w1.heap.size ≠ w.heap.size + 1 := by have := hb1.size; simp at this; omega
 clear hq hr hd p1 p2 n1 n2 np1 np2 hf cP cW
 go_region_held3 (fun w' => w'.cell? ⟨w1.heap.size, 0, none⟩ = some (.int .u64 (limb b 0)) ∧ w'.cell? ⟨w1.heap.size, 1, none⟩ = some (.int .u64 (limb b 1)) ∧ w'.cell? ⟨w1.heap.size, 2, none⟩ = some (.int .u64 (limb b 2)) ∧ w'.cell? ⟨w1.heap.size, 3, none⟩ = some (.int .u64 (limb b 3)) ∧ w'.cell? ⟨w1.heap.size, 4, none⟩ = some (.int .u64 (limb b 4)) ∧ w'.cell? ⟨w1.heap.size, 5, none⟩ = some (.int .u64 (limb b 5))) (first | with_reducible exact ⟨k0, k1, k2, k3, k4, k5⟩ | with_reducible exact ⟨g0, g1, g2, g3, g4, g5⟩ | exact (B7.put6_other (b % 2 ^ q) ne).six | exact ⟨c0, c1, c2, c3, c4, c5⟩)
  (first
  | (go_at_call 190; refine (wideMask_n (q : Int) _ q4).mono ?_; rw [Int.toNat_natCast]; rintro e w4 ⟨rfl, hb4⟩; obtain ⟨g0, g1, g2, g3, g4, g5⟩ := (b7.drew.below hb4 b7.lt).six)
  | (go_at_call 189; refine (wideCut_n b q _).mono ?_; rintro e w5 ⟨rfl, hb5⟩; have B7 := (b7.drew.below hb4 b7.lt).below hb5 (b7.drew.below hb4 b7.lt).lt; have B6 := (b6.drew.below hb4 b6.lt).below hb5 (b6.drew.below hb4 b6.lt).lt; obtain ⟨k0, k1, k2, k3, k4, k5⟩ := B7.six; obtain ⟨m0, m1, m2, m3, m4, m5⟩ := B6.six; obtain ⟨n0, n1, n2, n3, n4, n5⟩ := B6.six_free))
 all_goals
  have u7 := B7.put6_other (b % 2 ^ q) ne
  have u6 := B6.put6 rfl (b % 2 ^ q)
  have hs3 : w.heap.size + 1 < w3.drew.heap.size := b6.lt
  have hu := below_put6 ((hbw.drew.trans (hb4.mono (by omega))).trans (hb5.mono (by have := hb4.size; omega))) (by omega : w.heap.size ≤ w.heap.size + 1) (b % 2 ^ q)
  have hs7 := u7.lt
  clear B7 B6 hb1 hb2 hb3 hb4 hb5 b6 b7 hbw hs3 hT3
  change Exit.then _ _ Exit.normal _ (put6 w5 (w.heap.size + 1) (b % 2 ^ q))
  generalize put6 w5 (w.heap.size + 1) (b % 2 ^ q) = u at *
  clear f0 f1 f2 f3 f4 f5 d0 d1 d2 d3 d4 d5 c0 c1 c2 c3 c4 c5 g0 g1 g2 g3 g4 g5 k0 k1 k2 k3 k4 k5 m0 m1 m2 m3 m4 m5 n0 n1 n2 n3 n4 n5
  have U := Lib.hid (HT.out.below hu)
  obtain ⟨c0, c1, c2, c3, c4, c5⟩ := u7.six
  go_wp2_with fail
  refine (wideRight_n b (q : Int) _ (lt_top_bits b HB.out) U.out).mono ?_
  rw [Int.toNat_natCast]
  rintro e w6 ⟨rfl, hb6⟩
  have x7 := (u7.below hb6 u7.lt).alloc (.cells (limbs (b / 2 ^ q)) 60 (0, 0))
  have x6 := (u6.below hb6 u6.lt).alloc (.cells (limbs (b / 2 ^ q)) 60 (0, 0))
  have x10 := Blk.new (T := 60) w6 (limbs (b / 2 ^ q))
  have hx := (hu.trans (hb6.mono (by have := u6.lt; omega))).alloc (by have := u6.lt; have := hb6.size; omega) (.cells (limbs (b / 2 ^ q)) 60 (0, 0))
  clear c0 c1 c2 c3 c4 c5
  have n67 : w6.heap.size ≠ w.heap.size + 1 := by have := (u6.below hb6 u6.lt).lt; omega
  clear u7 u6 hb6 hu
  go_wp2_with fail
  change Code.wp _ _ _ _ (w6.alloc (.cells (limbs (b / 2 ^ q)) 60 (0, 0)))
  generalize w6.alloc (.cells (limbs (b / 2 ^ q)) 60 (0, 0)) = v at *
  obtain ⟨c0, c1, c2, c3, c4, c5⟩ := x7.six
  obtain ⟨d0, d1, d2, d3, d4, d5⟩ := x6.six
  have e0 := x10.cell 0 (limbs_get _ 0 (by decide))
  have du : IntKind.u64.wrap (d : Int) = (d : Int) := by rw [IntKind.wrap_u64]; omega
  have dt : min (d : Int).toNat 64 = d := by omega
  clear ne n67 vp ep q4 hs7
  go_region_held3 (fun w' => w'.cell? ⟨w1.heap.size, 0, none⟩ = some (.int .u64 (limb b 0)) ∧ w'.cell? ⟨w1.heap.size, 1, none⟩ = some (.int .u64 (limb b 1)) ∧ w'.cell? ⟨w1.heap.size, 2, none⟩ = some (.int .u64 (limb b 2)) ∧ w'.cell? ⟨w1.heap.size, 3, none⟩ = some (.int .u64 (limb b 3)) ∧ w'.cell? ⟨w1.heap.size, 4, none⟩ = some (.int .u64 (limb b 4)) ∧ w'.cell? ⟨w1.heap.size, 5, none⟩ = some (.int .u64 (limb b 5)) ∧ w'.cell? ⟨w6.heap.size, 0, none⟩ = some (.int .u64 (limb (b / 2 ^ q) 0)) ∧ w'.cell? ⟨w.heap.size + 1, 0, none⟩ = some (.int .u64 (limb (b % 2 ^ q) 0)) ∧ w'.cell? ⟨w.heap.size + 1, 1, none⟩ = some (.int .u64 (limb (b % 2 ^ q) 1)) ∧ w'.cell? ⟨w.heap.size + 1, 2, none⟩ = some (.int .u64 (limb (b % 2 ^ q) 2)) ∧ w'.cell? ⟨w.heap.size + 1, 3, none⟩ = some (.int .u64 (limb (b % 2 ^ q) 3)) ∧ w'.cell? ⟨w.heap.size + 1, 4, none⟩ = some (.int .u64 (limb (b % 2 ^ q) 4)) ∧ w'.cell? ⟨w.heap.size + 1, 5, none⟩ = some (.int .u64 (limb (b % 2 ^ q) 5)))
   (first | with_reducible exact ⟨g0, g1, g2, g3, g4, g5, h0, k0, k1, k2, k3, k4, k5⟩ | (rw [hk]; with_reducible exact ⟨g0, g1, g2, g3, g4, g5, h0, k0, k1, k2, k3, k4, k5⟩) | exact ⟨c0, c1, c2, c3, c4, c5, e0, d0, d1, d2, d3, d4, d5⟩)
   (first
   | (go_at_call 188; refine (wideBit_any b (r : Int) _).mono ?_; rw [bitI_in b r (lt_top_bits b HB.out)]; rintro e w7 ⟨rfl, hb7⟩; have B7 := x7.drew.below hb7 x7.lt; have B6 := x6.drew.below hb7 x6.lt; have hk := B6.again; unfold put6 at hk; obtain ⟨g0, g1, g2, g3, g4, g5⟩ := B7.six; have h0 := (x10.drew.below hb7 x10.lt).cell 0 (limbs_get _ 0 (by decide)); obtain ⟨k0, k1, k2, k3, k4, k5⟩ := B6.six; obtain ⟨n0, n1, n2, n3, n4, n5⟩ := B6.six_free))
  all_goals
   have hf := hx.drew.trans (hb7.mono (by have := x6.lt; exact Nat.le_of_lt (Nat.lt_of_succ_lt this)))
   have hv := field_exp (b / 2 ^ q) d d15
   have HV := Lib.hid hv
   have HF := Lib.hid hf
   clear hv hf hx hb7 B7 hk x7 x6 x10 c0 c1 c2 c3 c4 c5 d0 d1 d2 d3 d4 d5 e0
   go_wp2_with fail
   exact bodyPost_ret (v := .tuple #[.bool (b.testBit r), .int .i64 (Go.bits .and .i64 (IntKind.i64.wrap (limb (b / 2 ^ q) 0)) (IntKind.i64.wrap (IntKind.i64.wrap (2 ^ d) - 1))), W (b % 2 ^ q)])
    (by simp [results, Tryz.results187, go_sem, k0, k1, k2, k3, k4, k5, limbs]) rfl ⟨by rw [HV.out], HF.out⟩
theorem kindClass_nan (f b e t em p : Nat) (neg qb : Bool) (w : World) (hem : em ≤ 16383) (hp1 : 11 ≤ p) (hp2 : p ≤ 113) (ht : t < top6) (hT : Tab w)
  (cF : CT_ 187 #[.int .u8 f, BV b] (.tuple #[.bool neg, .int .i64 (e : Nat), W t]))
  (cE : CK_ 142 #[.int .u8 f] (.int .i64 (em : Nat)))
  (cP : CK_ 79 #[.int .u8 f] (.int .i64 (p : Nat)))
  (hz : decide (t = 0) = false) (hx : (e : Int) = 2 * (em : Int) + 1) (hy : 0 < (e : Int)) (hq : t.testBit (p - 2) = qb) :
  CR_ 124 #[.int .u8 f, BV b] w (.int .u8 (cond qb 9 8)) := by
 have eq0 := fun w => (run_equal_zero w t ht).trans (by rw [hz])
 have eq1 : ∀ w, (Op.equalIn 10000 60 (.agg (limbs t)) (.agg #[.int .u64 0, .int .u64 0, .int .u64 0, .int .u64 0, .int .u64 0, .int .u64 0])).run Tryz.prog w = .ok false w := eq0
 have vp : IntKind.i64.wrap ((p : Int) - 2) = ((p - 2 : Nat) : Int) := by rw [show (p : Int) - 2 = ((p - 2 : Nat) : Int) by omega]; exact IntWalk.i64_in _ (by omega)
 have HT := Lib.hid (hT.below ((Below.refl w.heap.size w).alloc (Nat.le_refl _) (.cells #[.int .u64 (limb b 1), .int .u64 (limb b 0)] 27 (0, 0))))
 have HA := Lib.hid ht
 obtain ⟨r, hr⟩ : ∃ r, p - 2 = r := ⟨_, rfl⟩
 rw [hr] at vp hq
 have hxb : ((e : Int) == 2 * (em : Int) + 1) = true := by simp; omega
 have hyb : ((e : Int) == 0) = false := by simp; omega
 clear ht hz hT hp1 hp2 hr
 cases neg <;> cases qb <;>
 ·go_enter Tryz.func124, Tryz.ntmps124
  go_wp2_with fail
  refine (cF _ HT.out).mono ?_
  rintro e' w1 ⟨rfl, hb1⟩
  go_wp2_with fail
  refine (cE _).mono ?_
  rintro e' w2 ⟨rfl, hb2⟩
  have b7 : Blk 60 w2 w1.heap.size (limbs t) := (Blk.new w1 (limbs t)).below hb2 (by simp)
  obtain ⟨c0, c1, c2, c3, c4, c5⟩ := b7.six
  go_wp2_with fail
  go_region_held3 (fun w' => w'.cell? ⟨w1.heap.size, 0, none⟩ = some (.int .u64 (limb t 0)) ∧ w'.cell? ⟨w1.heap.size, 1, none⟩ = some (.int .u64 (limb t 1)) ∧ w'.cell? ⟨w1.heap.size, 2, none⟩ = some (.int .u64 (limb t 2)) ∧ w'.cell? ⟨w1.heap.size, 3, none⟩ = some (.int .u64 (limb t 3)) ∧ w'.cell? ⟨w1.heap.size, 4, none⟩ = some (.int .u64 (limb t 4)) ∧ w'.cell? ⟨w1.heap.size, 5, none⟩ = some (.int .u64 (limb t 5)))
   (first | with_reducible exact ⟨g0, g1, g2, g3, g4, g5⟩ | with_reducible exact ⟨k0, k1, k2, k3, k4, k5⟩ | exact ⟨c0, c1, c2, c3, c4, c5⟩)
   (first
   | (go_at_call 79; refine (cP _).mono ?_; rintro e' w3 ⟨rfl, hb3⟩; have B3 := b7.drew.below hb3 b7.lt; obtain ⟨k0, k1, k2, k3, k4, k5⟩ := B3.six)
   | (go_at_call 188; refine (wideBit_any t (r : Int) _).mono ?_; rw [bitI_in t r HA.out, hq]; rintro e' w4 ⟨rfl, hb4⟩; obtain ⟨g0, g1, g2, g3, g4, g5⟩ := (B3.below hb4 B3.lt).six))
  all_goals
   have hs1 := hb1.size
   have hs2 := hb2.size
   have hs3 := hb3.size
   simp at hs1 hs2
   have HF := Lib.hid ((((((((Below.refl w.heap.size w).alloc (Nat.le_refl _) (.cells #[.int .u64 (limb b 1), .int .u64 (limb b 0)] 27 (0, 0))).trans (hb1.mono (by simp))).alloc (by omega) (.cells (limbs t) 60 (0, 0))).trans (hb2.mono (by simp; omega))).drew).trans (hb3.mono (by have := b7.lt; simp; omega))).trans (hb4.mono (by have := B3.lt; omega)))
   clear hs1 hs2 hs3 hb1 hb2 hb3 hb4 b7 B3
   go_wp2
   go_ret
   exact ⟨rfl, HF.out⟩
theorem kindClass_inf (f b e t em p : Nat) (neg qb : Bool) (w : World) (hem : em ≤ 16383) (hp1 : 11 ≤ p) (hp2 : p ≤ 113) (ht : t < top6) (hT : Tab w)
  (cF : CT_ 187 #[.int .u8 f, BV b] (.tuple #[.bool neg, .int .i64 (e : Nat), W t]))
  (cE : CK_ 142 #[.int .u8 f] (.int .i64 (em : Nat)))
  (cP : CK_ 79 #[.int .u8 f] (.int .i64 (p : Nat)))
  (hz : decide (t = 0) = true) (hx : (e : Int) = 2 * (em : Int) + 1) (hy : 0 < (e : Int)) :
  CR_ 124 #[.int .u8 f, BV b] w (.int .u8 (cond neg (7 - 7) 7)) := by
 have eq0 := fun w => (run_equal_zero w t ht).trans (by rw [hz])
 have eq1 : ∀ w, (Op.equalIn 10000 60 (.agg (limbs t)) (.agg #[.int .u64 0, .int .u64 0, .int .u64 0, .int .u64 0, .int .u64 0, .int .u64 0])).run Tryz.prog w = .ok true w := eq0
 have vp : IntKind.i64.wrap ((p : Int) - 2) = ((p - 2 : Nat) : Int) := by rw [show (p : Int) - 2 = ((p - 2 : Nat) : Int) by omega]; exact IntWalk.i64_in _ (by omega)
 have HT := Lib.hid (hT.below ((Below.refl w.heap.size w).alloc (Nat.le_refl _) (.cells #[.int .u64 (limb b 1), .int .u64 (limb b 0)] 27 (0, 0))))
 have HA := Lib.hid ht
 have hxb : ((e : Int) == 2 * (em : Int) + 1) = true := by simp; omega
 have hyb : ((e : Int) == 0) = false := by simp; omega
 clear ht hz hT hp1 hp2 vp
 cases neg <;>
 ·go_enter Tryz.func124, Tryz.ntmps124
  go_wp2_with fail
  refine (cF _ HT.out).mono ?_
  rintro e' w1 ⟨rfl, hb1⟩
  go_wp2_with fail
  refine (cE _).mono ?_
  rintro e' w2 ⟨rfl, hb2⟩
  go_wp2_with fail
  refine (cE _).mono ?_
  rintro e' w3 ⟨rfl, hb3⟩
  go_wp2
  go_ret
  have hs1 := hb1.size
  have hs2 := hb2.size
  simp at hs1 hs2
  exact ⟨rfl, (((((Below.refl w.heap.size w).alloc (Nat.le_refl _) (.cells #[.int .u64 (limb b 1), .int .u64 (limb b 0)] 27 (0, 0))).trans (hb1.mono (by simp))).alloc (by omega) (.cells (limbs t) 60 (0, 0))).trans (hb2.mono (by simp; omega))).trans (hb3.mono (by omega))⟩
theorem kindClass_nor (f b e t em p : Nat) (neg qb : Bool) (w : World) (hem : em ≤ 16383) (hp1 : 11 ≤ p) (hp2 : p ≤ 113) (ht : t < top6) (hT : Tab w)
  (cF : CT_ 187 #[.int .u8 f, BV b] (.tuple #[.bool neg, .int .i64 (e : Nat), W t]))
  (cE : CK_ 142 #[.int .u8 f] (.int .i64 (em : Nat)))
  (cP : CK_ 79 #[.int .u8 f] (.int .i64 (p : Nat)))
  (hz : decide (t = 0) = false) (hx : ¬ (e : Int) = 2 * (em : Int) + 1) (hy : 0 < (e : Int)) :
  CR_ 124 #[.int .u8 f, BV b] w (.int .u8 (cond neg (7 - 6) 6)) := by
 have eq0 := fun w => (run_equal_zero w t ht).trans (by rw [hz])
 have eq1 : ∀ w, (Op.equalIn 10000 60 (.agg (limbs t)) (.agg #[.int .u64 0, .int .u64 0, .int .u64 0, .int .u64 0, .int .u64 0, .int .u64 0])).run Tryz.prog w = .ok false w := eq0
 have vp : IntKind.i64.wrap ((p : Int) - 2) = ((p - 2 : Nat) : Int) := by rw [show (p : Int) - 2 = ((p - 2 : Nat) : Int) by omega]; exact IntWalk.i64_in _ (by omega)
 have HT := Lib.hid (hT.below ((Below.refl w.heap.size w).alloc (Nat.le_refl _) (.cells #[.int .u64 (limb b 1), .int .u64 (limb b 0)] 27 (0, 0))))
 have HA := Lib.hid ht
 have hxb : ((e : Int) == 2 * (em : Int) + 1) = false := by simp; omega
 have hyb : ((e : Int) == 0) = false := by simp; omega
 clear ht hz hT hp1 hp2 vp
 cases neg <;>
 ·go_enter Tryz.func124, Tryz.ntmps124
  go_wp2_with fail
  refine (cF _ HT.out).mono ?_
  rintro e' w1 ⟨rfl, hb1⟩
  go_wp2_with fail
  refine (cE _).mono ?_
  rintro e' w2 ⟨rfl, hb2⟩
  go_wp2
  go_ret
  have hs1 := hb1.size
  have hs2 := hb2.size
  simp at hs1 hs2
  exact ⟨rfl, ((((Below.refl w.heap.size w).alloc (Nat.le_refl _) (.cells #[.int .u64 (limb b 1), .int .u64 (limb b 0)] 27 (0, 0))).trans (hb1.mono (by simp))).alloc (by omega) (.cells (limbs t) 60 (0, 0))).trans (hb2.mono (by simp; omega))⟩
theorem kindClass_pow (f b e t em p : Nat) (neg qb : Bool) (w : World) (hem : em ≤ 16383) (hp1 : 11 ≤ p) (hp2 : p ≤ 113) (ht : t < top6) (hT : Tab w)
  (cF : CT_ 187 #[.int .u8 f, BV b] (.tuple #[.bool neg, .int .i64 (e : Nat), W t]))
  (cE : CK_ 142 #[.int .u8 f] (.int .i64 (em : Nat)))
  (cP : CK_ 79 #[.int .u8 f] (.int .i64 (p : Nat)))
  (hz : decide (t = 0) = true) (hx : ¬ (e : Int) = 2 * (em : Int) + 1) (hy : 0 < (e : Int)) :
  CR_ 124 #[.int .u8 f, BV b] w (.int .u8 (cond neg (7 - 6) 6)) := by
 have eq0 := fun w => (run_equal_zero w t ht).trans (by rw [hz])
 have eq1 : ∀ w, (Op.equalIn 10000 60 (.agg (limbs t)) (.agg #[.int .u64 0, .int .u64 0, .int .u64 0, .int .u64 0, .int .u64 0, .int .u64 0])).run Tryz.prog w = .ok true w := eq0
 have vp : IntKind.i64.wrap ((p : Int) - 2) = ((p - 2 : Nat) : Int) := by rw [show (p : Int) - 2 = ((p - 2 : Nat) : Int) by omega]; exact IntWalk.i64_in _ (by omega)
 have HT := Lib.hid (hT.below ((Below.refl w.heap.size w).alloc (Nat.le_refl _) (.cells #[.int .u64 (limb b 1), .int .u64 (limb b 0)] 27 (0, 0))))
 have HA := Lib.hid ht
 have hxb : ((e : Int) == 2 * (em : Int) + 1) = false := by simp; omega
 have hyb : ((e : Int) == 0) = false := by simp; omega
 clear ht hz hT hp1 hp2 vp
 cases neg <;>
 ·go_enter Tryz.func124, Tryz.ntmps124
  go_wp2_with fail
  refine (cF _ HT.out).mono ?_
  rintro e' w1 ⟨rfl, hb1⟩
  go_wp2_with fail
  refine (cE _).mono ?_
  rintro e' w2 ⟨rfl, hb2⟩
  go_wp2_with fail
  refine (cE _).mono ?_
  rintro e' w3 ⟨rfl, hb3⟩
  go_wp2
  go_ret
  have hs1 := hb1.size
  have hs2 := hb2.size
  simp at hs1 hs2
  exact ⟨rfl, (((((Below.refl w.heap.size w).alloc (Nat.le_refl _) (.cells #[.int .u64 (limb b 1), .int .u64 (limb b 0)] 27 (0, 0))).trans (hb1.mono (by simp))).alloc (by omega) (.cells (limbs t) 60 (0, 0))).trans (hb2.mono (by simp; omega))).trans (hb3.mono (by omega))⟩
theorem kindClass_sub (f b e t em p : Nat) (neg qb : Bool) (w : World) (hem : em ≤ 16383) (hp1 : 11 ≤ p) (hp2 : p ≤ 113) (ht : t < top6) (hT : Tab w)
  (cF : CT_ 187 #[.int .u8 f, BV b] (.tuple #[.bool neg, .int .i64 (e : Nat), W t]))
  (cE : CK_ 142 #[.int .u8 f] (.int .i64 (em : Nat)))
  (cP : CK_ 79 #[.int .u8 f] (.int .i64 (p : Nat)))
  (hz : decide (t = 0) = false) (hx : ¬ (e : Int) = 2 * (em : Int) + 1) (hy : (e : Int) = 0) :
  CR_ 124 #[.int .u8 f, BV b] w (.int .u8 (cond neg (7 - 5) 5)) := by
 have eq0 := fun w => (run_equal_zero w t ht).trans (by rw [hz])
 have eq1 : ∀ w, (Op.equalIn 10000 60 (.agg (limbs t)) (.agg #[.int .u64 0, .int .u64 0, .int .u64 0, .int .u64 0, .int .u64 0, .int .u64 0])).run Tryz.prog w = .ok false w := eq0
 have vp : IntKind.i64.wrap ((p : Int) - 2) = ((p - 2 : Nat) : Int) := by rw [show (p : Int) - 2 = ((p - 2 : Nat) : Int) by omega]; exact IntWalk.i64_in _ (by omega)
 have HT := Lib.hid (hT.below ((Below.refl w.heap.size w).alloc (Nat.le_refl _) (.cells #[.int .u64 (limb b 1), .int .u64 (limb b 0)] 27 (0, 0))))
 have HA := Lib.hid ht
 have hxb : ((e : Int) == 2 * (em : Int) + 1) = false := by simp; omega
 have hyb : ((e : Int) == 0) = true := by simp; omega
 clear ht hz hT hp1 hp2 vp
 cases neg <;>
 ·go_enter Tryz.func124, Tryz.ntmps124
  go_wp2_with fail
  refine (cF _ HT.out).mono ?_
  rintro e' w1 ⟨rfl, hb1⟩
  go_wp2_with fail
  refine (cE _).mono ?_
  rintro e' w2 ⟨rfl, hb2⟩
  go_wp2
  go_ret
  have hs1 := hb1.size
  have hs2 := hb2.size
  simp at hs1 hs2
  exact ⟨rfl, ((((Below.refl w.heap.size w).alloc (Nat.le_refl _) (.cells #[.int .u64 (limb b 1), .int .u64 (limb b 0)] 27 (0, 0))).trans (hb1.mono (by simp))).alloc (by omega) (.cells (limbs t) 60 (0, 0))).trans (hb2.mono (by simp; omega))⟩
theorem kindClass_zer (f b e t em p : Nat) (neg qb : Bool) (w : World) (hem : em ≤ 16383) (hp1 : 11 ≤ p) (hp2 : p ≤ 113) (ht : t < top6) (hT : Tab w)
  (cF : CT_ 187 #[.int .u8 f, BV b] (.tuple #[.bool neg, .int .i64 (e : Nat), W t]))
  (cE : CK_ 142 #[.int .u8 f] (.int .i64 (em : Nat)))
  (cP : CK_ 79 #[.int .u8 f] (.int .i64 (p : Nat)))
  (hz : decide (t = 0) = true) (hx : ¬ (e : Int) = 2 * (em : Int) + 1) (hy : (e : Int) = 0) :
  CR_ 124 #[.int .u8 f, BV b] w (.int .u8 (cond neg (7 - 4) 4)) := by
 have eq0 := fun w => (run_equal_zero w t ht).trans (by rw [hz])
 have eq1 : ∀ w, (Op.equalIn 10000 60 (.agg (limbs t)) (.agg #[.int .u64 0, .int .u64 0, .int .u64 0, .int .u64 0, .int .u64 0, .int .u64 0])).run Tryz.prog w = .ok true w := eq0
 have vp : IntKind.i64.wrap ((p : Int) - 2) = ((p - 2 : Nat) : Int) := by rw [show (p : Int) - 2 = ((p - 2 : Nat) : Int) by omega]; exact IntWalk.i64_in _ (by omega)
 have HT := Lib.hid (hT.below ((Below.refl w.heap.size w).alloc (Nat.le_refl _) (.cells #[.int .u64 (limb b 1), .int .u64 (limb b 0)] 27 (0, 0))))
 have HA := Lib.hid ht
 have hxb : ((e : Int) == 2 * (em : Int) + 1) = false := by simp; omega
 have hyb : ((e : Int) == 0) = true := by simp; omega
 clear ht hz hT hp1 hp2 vp
 cases neg <;>
 ·go_enter Tryz.func124, Tryz.ntmps124
  go_wp2_with fail
  refine (cF _ HT.out).mono ?_
  rintro e' w1 ⟨rfl, hb1⟩
  go_wp2_with fail
  refine (cE _).mono ?_
  rintro e' w2 ⟨rfl, hb2⟩
  go_wp2
  go_ret
  have hs1 := hb1.size
  have hs2 := hb2.size
  simp at hs1 hs2
  exact ⟨rfl, ((((Below.refl w.heap.size w).alloc (Nat.le_refl _) (.cells #[.int .u64 (limb b 1), .int .u64 (limb b 0)] 27 (0, 0))).trans (hb1.mono (by simp))).alloc (by omega) (.cells (limbs t) 60 (0, 0))).trans (hb2.mono (by simp; omega))⟩
theorem u8_eq {x y : Int} {e : Ending} {P : Prop} (h : x = y) (k : e = .returned (.int .u8 x) ∧ P) : e = .returned (.int .u8 y) ∧ P := by rw [← h]; exact k
theorem kindclass_any (f b : Nat) (w : World) (hf : f < 4) (hb : b < 2 ^ (64 * 2)) (hT : Tab w) :
  CR_ 124 #[.int .u8 f, BV b] w (.int .u8 (clsN f b : Nat)) := by
 have cF := fun w hT => kindFields_any f b w hf hb hT
 have cE := fun w => shapeEmax_any f w (by omega)
 have cP := fun w => shapePrecision_any f w (by omega)
 obtain ⟨p1, p2, -, -, -, -⟩ := formB f hf
 have em := eF_le f
 have ht : b % 2 ^ (pF f - 1) < top6 := Nat.lt_of_le_of_lt (Nat.mod_le _ _) (lt_top_bits b hb)
 unfold clsN
 generalize b % 2 ^ (pF f - 1) = t at *
 generalize expN f b = e at *
 generalize b.testBit (wF f - 1) = neg at *
 generalize eF f = m at *
 generalize pF f = p at *
 by_cases hx : e = 2 * m + 1
 ·have hy : 0 < (e : Int) := by omega
  have hx' : (e : Int) = 2 * (m : Int) + 1 := by omega
  rw [if_pos hx]
  by_cases hz : t = 0
  ·rw [if_pos hz]
   exact (kindClass_inf f b e t m p neg false w em p1 p2 ht hT cF cE cP (decide_eq_true hz) hx' hy).mono fun e' w' h => u8_eq (by cases neg <;> rfl) h
  ·rw [if_neg hz]
   exact (kindClass_nan f b e t m p neg (t.testBit (p - 2)) w em p1 p2 ht hT cF cE cP (decide_eq_false hz) hx' hy rfl).mono fun e' w' h => u8_eq (by cases t.testBit (p - 2) <;> rfl) h
 ·have hx' : ¬ (e : Int) = 2 * (m : Int) + 1 := by omega
  rw [if_neg hx]
  by_cases hy : e = 0
  ·have hy' : (e : Int) = 0 := by omega
   rw [if_pos hy]
   by_cases hz : t = 0
   ·rw [if_pos hz]
    exact (kindClass_zer f b e t m p neg false w em p1 p2 ht hT cF cE cP (decide_eq_true hz) hx' hy').mono fun e' w' h => u8_eq (by cases neg <;> rfl) h
   ·rw [if_neg hz]
    exact (kindClass_sub f b e t m p neg false w em p1 p2 ht hT cF cE cP (decide_eq_false hz) hx' hy').mono fun e' w' h => u8_eq (by cases neg <;> rfl) h
  ·have hy' : 0 < (e : Int) := by omega
   rw [if_neg hy]
   by_cases hz : t = 0
   ·exact (kindClass_pow f b e t m p neg false w em p1 p2 ht hT cF cE cP (decide_eq_true hz) hx' hy').mono fun e' w' h => u8_eq (by cases neg <;> rfl) h
   ·exact (kindClass_nor f b e t m p neg false w em p1 p2 ht hT cF cE cP (decide_eq_false hz) hx' hy').mono fun e' w' h => u8_eq (by cases neg <;> rfl) h
def parts (c : Nat) (s : Nat) (x : Int) (f : Nat) : Array Value := #[.int .u8 c, .int .u64 (limb s 0), .int .u64 (limb s 1), .int .u64 (limb s 2), .int .u64 (limb s 3), .int .u64 (limb s 4), .int .u64 (limb s 5), .int .i64 x, .int .u64 (limb f 0), .int .u64 (limb f 1), .int .u64 (limb f 2), .int .u64 (limb f 3), .int .u64 (limb f 4), .int .u64 (limb f 5)]
abbrev PV (c s : Nat) (x : Int) (f : Nat) : Value := .agg (parts c s x f)
theorem limb_zero (i : Nat) : limb 0 i = 0 := by unfold limb limbN; rw [Nat.zero_div]; rfl
theorem parts_zero (c : Nat) : parts c 0 0 0 = #[.int .u8 c, .int .u64 0, .int .u64 0, .int .u64 0, .int .u64 0, .int .u64 0, .int .u64 0, .int .i64 0, .int .u64 0, .int .u64 0, .int .u64 0, .int .u64 0, .int .u64 0, .int .u64 0] := by
 unfold parts; simp only [limb_zero]
theorem Blk.p14 {T : TypeId} {w : World} {g c s : Nat} {x : Int} {f : Nat} (h : Blk T w g (parts c s x f)) :
  w.cell? ⟨g, 0, none⟩ = some (.int .u8 c) ∧ w.cell? ⟨g, 1, none⟩ = some (.int .u64 (limb s 0)) ∧ w.cell? ⟨g, 2, none⟩ = some (.int .u64 (limb s 1)) ∧ w.cell? ⟨g, 3, none⟩ = some (.int .u64 (limb s 2)) ∧ w.cell? ⟨g, 4, none⟩ = some (.int .u64 (limb s 3)) ∧ w.cell? ⟨g, 5, none⟩ = some (.int .u64 (limb s 4)) ∧ w.cell? ⟨g, 6, none⟩ = some (.int .u64 (limb s 5)) ∧ w.cell? ⟨g, 7, none⟩ = some (.int .i64 x) ∧ w.cell? ⟨g, 8, none⟩ = some (.int .u64 (limb f 0)) ∧ w.cell? ⟨g, 9, none⟩ = some (.int .u64 (limb f 1)) ∧ w.cell? ⟨g, 10, none⟩ = some (.int .u64 (limb f 2)) ∧ w.cell? ⟨g, 11, none⟩ = some (.int .u64 (limb f 3)) ∧ w.cell? ⟨g, 12, none⟩ = some (.int .u64 (limb f 4)) ∧ w.cell? ⟨g, 13, none⟩ = some (.int .u64 (limb f 5)) :=
 ⟨h.cell 0 rfl, h.cell 1 rfl, h.cell 2 rfl, h.cell 3 rfl, h.cell 4 rfl, h.cell 5 rfl, h.cell 6 rfl, h.cell 7 rfl, h.cell 8 rfl, h.cell 9 rfl, h.cell 10 rfl, h.cell 11 rfl, h.cell 12 rfl, h.cell 13 rfl⟩
theorem Blk.free14 {T : TypeId} {w : World} {g : Nat} {cs : Array Value} (h : Blk T w g cs) :
  w.frozen? ⟨g, 0, none⟩ = false ∧ w.frozen? ⟨g, 1, none⟩ = false ∧ w.frozen? ⟨g, 2, none⟩ = false ∧ w.frozen? ⟨g, 3, none⟩ = false ∧ w.frozen? ⟨g, 4, none⟩ = false ∧ w.frozen? ⟨g, 5, none⟩ = false ∧ w.frozen? ⟨g, 6, none⟩ = false ∧ w.frozen? ⟨g, 7, none⟩ = false ∧ w.frozen? ⟨g, 8, none⟩ = false ∧ w.frozen? ⟨g, 9, none⟩ = false ∧ w.frozen? ⟨g, 10, none⟩ = false ∧ w.frozen? ⟨g, 11, none⟩ = false ∧ w.frozen? ⟨g, 12, none⟩ = false ∧ w.frozen? ⟨g, 13, none⟩ = false :=
 ⟨h.free 0, h.free 1, h.free 2, h.free 3, h.free 4, h.free 5, h.free 6, h.free 7, h.free 8, h.free 9, h.free 10, h.free 11, h.free 12, h.free 13⟩
def put14 (w : World) (g c s : Nat) (x : Int) (f : Nat) : World := ((((((((((((((w.setCell ⟨g, 0, none⟩ (.int .u8 c)).setCell ⟨g, 1, none⟩ (.int .u64 (limb s 0))).setCell ⟨g, 2, none⟩ (.int .u64 (limb s 1))).setCell ⟨g, 3, none⟩ (.int .u64 (limb s 2))).setCell ⟨g, 4, none⟩ (.int .u64 (limb s 3))).setCell ⟨g, 5, none⟩ (.int .u64 (limb s 4))).setCell ⟨g, 6, none⟩ (.int .u64 (limb s 5))).setCell ⟨g, 7, none⟩ (.int .i64 x)).setCell ⟨g, 8, none⟩ (.int .u64 (limb f 0))).setCell ⟨g, 9, none⟩ (.int .u64 (limb f 1))).setCell ⟨g, 10, none⟩ (.int .u64 (limb f 2))).setCell ⟨g, 11, none⟩ (.int .u64 (limb f 3))).setCell ⟨g, 12, none⟩ (.int .u64 (limb f 4))).setCell ⟨g, 13, none⟩ (.int .u64 (limb f 5)))
theorem Blk.cast {T : TypeId} {w : World} {g : Nat} {cs cs' : Array Value} (h : Blk T w g cs) (e : cs = cs') : Blk T w g cs' := e ▸ h
theorem Blk.put14 {T : TypeId} {w : World} {g : Nat} {c0 s0 : Nat} {x0 : Int} {f0 : Nat} (h : Blk T w g (parts c0 s0 x0 f0)) (c s : Nat) (x : Int) (f : Nat) : Blk T (put14 w g c s x f) g (parts c s x f) := by
 unfold Go.Proofs.YtgmhmpflmgfcdaaGreatDoor.put14
 exact Blk.cast ((((((((((((((h.set 0 _ rfl).set 1 _ rfl).set 2 _ rfl).set 3 _ rfl).set 4 _ rfl).set 5 _ rfl).set 6 _ rfl).set 7 _ rfl).set 8 _ rfl).set 9 _ rfl).set 10 _ rfl).set 11 _ rfl).set 12 _ rfl).set 13 _ rfl) (by simp [parts])
theorem below_put14 {B : Nat} {w0 w : World} {g : Nat} (hb : Below B w0 w) (hg : B ≤ g) (c s : Nat) (x : Int) (f : Nat) : Below B w0 (put14 w g c s x f) := by
 unfold put14
 exact ((((((((((((((hb.setCell hg _).setCell hg _).setCell hg _).setCell hg _).setCell hg _).setCell hg _).setCell hg _).setCell hg _).setCell hg _).setCell hg _).setCell hg _).setCell hg _).setCell hg _).setCell hg _)
theorem kindUnpack_no (f b : Nat) (w : World)
  (cT : CK_ 92 #[.int .u8 f, BV b] (.bool false)) :
  CR_ 120 #[.int .u8 f, BV b] w (.tuple #[PV 0 0 0 0, .int .i64 2]) := by
 go_enter Tryz.func120, Tryz.ntmps120
 go_wp2_with fail
 refine (cT _).mono ?_
 rintro e' w1 ⟨rfl, hb1⟩
 have b4 : Blk 100 w1 (w.heap.size + 1) (parts 0 0 0 0) := by
  rw [parts_zero]
  have := (Blk.new (T := 100) (w.alloc (.cells #[.int .u64 (limb b 1), .int .u64 (limb b 0)] 27 (0, 0))) #[.int .u8 0, .int .u64 0, .int .u64 0, .int .u64 0, .int .u64 0, .int .u64 0, .int .u64 0, .int .i64 0, .int .u64 0, .int .u64 0, .int .u64 0, .int .u64 0, .int .u64 0, .int .u64 0]).below hb1 (by simp)
  simpa using this
 obtain ⟨d0, d1, d2, d3, d4, d5, d6, d7, d8, d9, d10, d11, d12, d13⟩ := b4.p14
 obtain ⟨n0, n1, n2, n3, n4, n5, n6, n7, n8, n9, n10, n11, n12, n13⟩ := b4.free14
 go_wp2_with fail
 have hb := below_put14 (((((Below.refl w.heap.size w).alloc (Nat.le_refl _) (.cells #[.int .u64 (limb b 1), .int .u64 (limb b 0)] 27 (0, 0))).alloc (by simp) (.cells #[.int .u8 0, .int .u64 0, .int .u64 0, .int .u64 0, .int .u64 0, .int .u64 0, .int .u64 0, .int .i64 0, .int .u64 0, .int .u64 0, .int .u64 0, .int .u64 0, .int .u64 0, .int .u64 0] 100 (0, 0))).trans (hb1.mono (by simp <;> omega)))) (by omega : w.heap.size ≤ w.heap.size + 1) 0 0 0 0
 unfold put14 at hb
 simp only [limb_zero] at hb
 exact bodyPost_ret (v := .tuple #[PV 0 0 0 0, .int .i64 2]) (by simp [results, Tryz.results120, go_sem, parts, limb_zero, d0, d1, d2, d3, d4, d5, d6, d7, d8, d9, d10, d11, d12, d13]) rfl ⟨rfl, hb⟩
def rough (neg : Bool) (s : Nat) (e : Int) (mo : Bool) : Array Value := #[.bool neg, .int .u64 (limb s 0), .int .u64 (limb s 1), .int .u64 (limb s 2), .int .u64 (limb s 3), .int .u64 (limb s 4), .int .u64 (limb s 5), .int .i64 e, .bool mo]
abbrev RV (neg : Bool) (s : Nat) (e : Int) (mo : Bool) : Value := .agg (rough neg s e mo)
theorem tW_s : (Tryz.prog.info? 60).map (·.size) = some 6 := by kernel_rfl
theorem tB_s : (Tryz.prog.info? 27).map (·.size) = some 2 := by kernel_rfl
theorem tP_s : (Tryz.prog.info? 100).map (·.size) = some 14 := by kernel_rfl
theorem tR_s : (Tryz.prog.info? 83).map (·.size) = some 9 := by kernel_rfl
theorem t3_s : (Tryz.prog.info? 101).map (·.size) = some 42 := by kernel_rfl
theorem tu_s : (Tryz.prog.info? 25).map (·.size) = some 1 := by kernel_rfl
theorem ti_s : (Tryz.prog.info? 3).map (·.size) = some 1 := by kernel_rfl
theorem tb_s : (Tryz.prog.info? 4).map (·.size) = some 1 := by kernel_rfl
theorem tc_s : (Tryz.prog.info? 65).map (·.size) = some 1 := by kernel_rfl
theorem tW_z : (Tryz.prog.info? 60).bind (·.zero) = some (W 0) := by rw [show W 0 = .agg (limbs 0) from rfl, limbs_zero]; kernel_rfl
theorem tB_z : (Tryz.prog.info? 27).bind (·.zero) = some (.agg #[.int .u64 0, .int .u64 0]) := by kernel_rfl
theorem tP_z : (Tryz.prog.info? 100).bind (·.zero) = some (PV 0 0 0 0) := by rw [show PV 0 0 0 0 = .agg (parts 0 0 0 0) from rfl, parts_zero]; kernel_rfl
theorem rough_zero : rough false 0 0 false = #[.bool false, .int .u64 0, .int .u64 0, .int .u64 0, .int .u64 0, .int .u64 0, .int .u64 0, .int .i64 0, .bool false] := by
 unfold rough; simp only [limb_zero]
theorem tR_z : (Tryz.prog.info? 83).bind (·.zero) = some (RV false 0 0 false) := by rw [show RV false 0 0 false = .agg (rough false 0 0 false) from rfl, rough_zero]; kernel_rfl
theorem ext_limbs (a : Nat) : (limbs a).extract 0 (0 + (limbs a).size) = limbs a := rfl
theorem ext_parts (c s : Nat) (x : Int) (f : Nat) : (parts c s x f).extract 0 (0 + (parts c s x f).size) = parts c s x f := rfl
theorem ext_parts_s (c s : Nat) (x : Int) (f : Nat) : (parts c s x f).extract 1 (1 + (limbs s).size) = limbs s := rfl
theorem ext_parts_f (c s : Nat) (x : Int) (f : Nat) : (parts c s x f).extract 8 (8 + (limbs f).size) = limbs f := rfl
theorem ext_rough (neg : Bool) (s : Nat) (e : Int) (mo : Bool) : (rough neg s e mo).extract 0 (0 + (rough neg s e mo).size) = rough neg s e mo := rfl
theorem ext_rough_s (neg : Bool) (s : Nat) (e : Int) (mo : Bool) : (rough neg s e mo).extract 1 (1 + (limbs s).size) = limbs s := rfl
theorem get_rough0 (neg : Bool) (s : Nat) (e : Int) (mo : Bool) : (rough neg s e mo)[0]? = some (.bool neg) := rfl
theorem get_rough7 (neg : Bool) (s : Nat) (e : Int) (mo : Bool) : (rough neg s e mo)[7]? = some (.int .i64 e) := rfl
theorem get_rough8 (neg : Bool) (s : Nat) (e : Int) (mo : Bool) : (rough neg s e mo)[8]? = some (.bool mo) := rfl
theorem get_parts0 (c s : Nat) (x : Int) (f : Nat) : (parts c s x f)[0]? = some (.int .u8 c) := rfl
theorem get_parts7 (c s : Nat) (x : Int) (f : Nat) : (parts c s x f)[7]? = some (.int .i64 x) := rfl
theorem one_of {vs : Array Value} (h : vs.toList.all (·.oneCell') = true) : vs.all (·.oneCell') = true := by rw [← Array.all_toList]; exact h
theorem setRow_get (vs : List Value) : ∀ (cs : Array Value) (o j : Nat), o + vs.length ≤ cs.size → (setRow cs o vs)[j]? = if j < o then cs[j]? else if j < o + vs.length then vs[j - o]? else cs[j]? := by
 induction vs with
 | nil => intro cs o j _; rw [setRow]; by_cases h : j < o <;> simp [h]
 | cons v r ih =>
  intro cs o j h
  rw [List.length_cons] at h
  rw [setRow, ih _ _ _ (by rw [Array.size_setIfInBounds]; omega), Array.getElem?_setIfInBounds, List.length_cons]
  by_cases h1 : j < o
  ·rw [if_pos (by omega), if_neg (by omega), if_pos h1]
  ·by_cases h2 : j = o
   ·subst h2
    rw [if_pos (by omega), if_pos rfl, if_pos (by omega), if_neg (by omega), if_pos (by omega), Nat.sub_self]; rfl
   ·rw [if_neg (by omega), if_neg h1]
    by_cases h3 : j < o + (r.length + 1)
    ·rw [if_pos (by omega), if_pos h3, show j - o = (j - (o + 1)) + 1 by omega]; rfl
    ·rw [if_neg (by omega), if_neg (by omega), if_neg h3]
theorem set_all (cs vs : Array Value) (h : cs.size = vs.size) : setRow cs 0 vs.toList = vs := by
 apply Array.ext_getElem?
 intro j
 rw [setRow_get _ _ _ _ (by simp [h]), if_neg (by omega)]
 by_cases hj : j < 0 + vs.toList.length
 ·rw [if_pos hj]; simp
 ·rw [if_neg hj, Array.getElem?_eq_none (by simp at hj; omega), Array.getElem?_eq_none (by simp at hj; omega)]
theorem set_zero6 (cs : Array Value) (h : cs.size = 6) : setRow cs 0 (#[.int .u64 0, .int .u64 0, .int .u64 0, .int .u64 0, .int .u64 0, .int .u64 0] : Array Value).toList = limbs 0 := by rw [limbs_zero]; exact set_all _ _ h
theorem set_parts_s (c s : Nat) (x : Int) (f s' : Nat) : setRow (parts c s x f) 1 (limbs s').toList = parts c s' x f := rfl
theorem set_parts_f (c s : Nat) (x : Int) (f f' : Nat) : setRow (parts c s x f) 8 (limbs f').toList = parts c s x f' := rfl
theorem set_parts_x (c s : Nat) (x : Int) (f : Nat) (x' : Int) : setRow (parts c s x f) 7 (#[.int .i64 x'] : Array Value).toList = parts c s x' f := rfl
theorem set_rough_s (neg : Bool) (s : Nat) (e : Int) (mo : Bool) (s' : Nat) : setRow (rough neg s e mo) 1 (limbs s').toList = rough neg s' e mo := rfl
theorem set_rough_n (neg : Bool) (s : Nat) (e : Int) (mo neg' : Bool) : setRow (rough neg s e mo) 0 (#[.bool neg'] : Array Value).toList = rough neg' s e mo := rfl
theorem rW : IsRow Tryz.prog 60 6 (limbs 0) := ⟨⟨_, Tryz.underlying60, rfl⟩, tW_s, tW_z⟩
theorem rB : IsRow Tryz.prog 27 2 #[.int .u64 0, .int .u64 0] := ⟨⟨_, Tryz.underlying27, rfl⟩, tB_s, tB_z⟩
theorem rP : IsRow Tryz.prog 100 14 (parts 0 0 0 0) := ⟨⟨_, Tryz.underlying100, rfl⟩, tP_s, tP_z⟩
theorem rR : IsRow Tryz.prog 83 9 (rough false 0 0 false) := ⟨⟨_, Tryz.underlying83, rfl⟩, tR_s, tR_z⟩
theorem oU : IsOne Tryz.prog 25 := ⟨⟨_, Tryz.underlying25, rfl⟩, tu_s⟩
theorem oI : IsOne Tryz.prog 3 := ⟨⟨_, Tryz.underlying3, rfl⟩, ti_s⟩
theorem oT : IsOne Tryz.prog 4 := ⟨⟨_, Tryz.underlying4, rfl⟩, tb_s⟩
theorem oC : IsOne Tryz.prog 65 := ⟨⟨_, Tryz.underlying65, rfl⟩, tc_s⟩
theorem two_pos (n : Nat) : 0 < 2 ^ n := Nat.two_pow_pos n
def gridN (m : Nat) (neg : Bool) (sig : Nat) (exp : Int) (more : Bool) (at_ : Int) : Nat × Bool :=
 if at_ ≤ exp then (sig * 2 ^ (exp - at_).toNat, !more)
 else
  (sig / 2 ^ (at_ - exp).toNat + cond (upB m neg (decide (sig / 2 ^ (at_ - exp).toNat % 2 = 1)) (cond (more && decide (halfN sig (at_ - exp).toNat = 0)) 1 (halfN sig (at_ - exp).toNat)) (decide (sig % 2 ^ (at_ - exp).toNat = 0) && !more)) 1 0,
   decide (sig % 2 ^ (at_ - exp).toNat = 0) && !more)
def signN (f : Nat) (neg : Bool) : Nat := cond neg (2 ^ (wF f - 1)) 0
def zeroN (f : Nat) (neg : Bool) : Nat := cond (decide (f < 4)) (signN f neg) 0
def infN (f : Nat) (neg : Bool) : Nat := cond (decide (f < 4)) ((2 * eF f + 1) * 2 ^ (pF f - 1) + signN f neg) 0
def nanN (f : Nat) : Nat := cond (decide (f < 4)) ((4 * eF f + 3) * 2 ^ (pF f - 2)) 0
def greatN (f : Nat) (neg : Bool) : Nat := cond (decide (f < 4)) ((2 * eF f + 1) * 2 ^ (pF f - 1) - 1 + signN f neg) 0
def oneN (f : Nat) (neg : Bool) : Nat := cond (decide (f < 4)) (eF f * 2 ^ (pF f - 1) + signN f neg) 0
def overB (m : Nat) (neg : Bool) : Bool := decide (m = 1) || (decide (m = 2) && !neg) || (decide (m = 3) && neg)
def overN (f m : Nat) (neg : Bool) : Nat := cond (overB m neg) (greatN f neg) (infN f neg)
def atN (f : Nat) (top : Int) : Int := max top (eminI f) - pF f + 1
def tinyB (f m : Nat) (neg : Bool) (sig : Nat) (exp : Int) (more : Bool) (top : Int) : Bool :=
 if top = eminI f - 1 then decide (lenN (gridN m neg sig exp more (top - pF f + 1)).1 ≤ pF f) else decide (top < eminI f)
def encN (f : Nat) (neg : Bool) (c : Nat) (q : Int) : Nat := (q - eminI f + pF f - 1).toNat * 2 ^ (pF f - 1) + c + signN f neg
def packB (f m : Nat) (neg : Bool) (sig : Nat) (exp : Int) (more : Bool) : Nat × Nat :=
 if (eF f : Int) < lenN sig - 1 + exp then (overN f m neg, 5)
 else if (eF f : Int) < lenN (gridN m neg sig exp more (atN f (lenN sig - 1 + exp))).1 - 1 + atN f (lenN sig - 1 + exp) then (overN f m neg, 5)
 else (encN f neg (gridN m neg sig exp more (atN f (lenN sig - 1 + exp))).1 (atN f (lenN sig - 1 + exp)),
  cond (gridN m neg sig exp more (atN f (lenN sig - 1 + exp))).2 0 (cond (tinyB f m neg sig exp more (lenN sig - 1 + exp)) 3 1))
def packOk (f m : Nat) (sig : Nat) (exp : Int) (more : Bool) : Bool := decide (f < 4) && decide (m < 5) && decide (-1048576 ≤ exp) && decide (exp ≤ 1048576) && !(more && decide (lenN sig < pF f + 2))
def packN (f m : Nat) (neg : Bool) (sig : Nat) (exp : Int) (more : Bool) : Nat × Nat × Int :=
 if packOk f m sig exp more = true then (if sig = 0 then (zeroN f neg, 0, 0) else ((packB f m neg sig exp more).1, (packB f m neg sig exp more).2, 0)) else (0, 0, 2)
theorem bit_iff (a n : Nat) : a.testBit n = true ↔ 2 ^ n ≤ a % 2 ^ (n + 1) := by
 rw [Nat.testBit_eq_decide_div_mod_eq, decide_eq_true_iff, Nat.pow_succ, Nat.mod_mul]
 have h := Nat.mod_lt a (two_pos n)
 have : a / 2 ^ n % 2 = 0 ∨ a / 2 ^ n % 2 = 1 := by omega
 rcases this with e | e
 ·rw [e, Nat.mul_zero]; omega
 ·rw [e, Nat.mul_one]; omega
theorem mod_split (a n : Nat) : a % 2 ^ (n + 1) = a % 2 ^ n + 2 ^ n * (a / 2 ^ n % 2) := by rw [Nat.pow_succ, Nat.mod_mul]
theorem halfN_pos (a n : Nat) : halfN a (n + 1) = if a % 2 ^ (n + 1) < 2 ^ n then -1 else if a % 2 ^ (n + 1) = 2 ^ n then 0 else 1 := by
 unfold halfN
 rw [if_neg (by omega), Nat.add_sub_cancel]
 have hs := mod_split a n
 have hl := Nat.mod_lt a (two_pos n)
 by_cases h : a.testBit n = true
 ·have hb := (bit_iff a n).1 h
  rw [if_pos h]
  have : a / 2 ^ n % 2 = 0 ∨ a / 2 ^ n % 2 = 1 := by omega
  rcases this with e | e
  ·rw [e, Nat.mul_zero] at hs; omega
  ·rw [e, Nat.mul_one] at hs
   rw [if_neg (by omega : ¬ a % 2 ^ (n + 1) < 2 ^ n)]
   by_cases hz : a % 2 ^ n = 0
   ·rw [if_pos hz, if_pos (by omega)]
   ·rw [if_neg hz, if_neg (by omega)]
 ·have hb : ¬ 2 ^ n ≤ a % 2 ^ (n + 1) := fun x => h ((bit_iff a n).2 x)
  rw [if_neg h, if_pos (by omega)]
structure Finer (s : Nat) (e : Int) (mo : Bool) (s' : Nat) (e' : Int) (mo' : Bool) : Prop where
 le : e' ≤ e
 sig : s = s' / 2 ^ (e - e').toNat
 more : mo = (mo' || !decide (s' % 2 ^ (e - e').toNat = 0))
theorem div_more (s' d n : Nat) : s' / 2 ^ d / 2 ^ n = s' / 2 ^ (d + n) := by rw [Nat.div_div_eq_div_mul, ← Nat.pow_add]
theorem mod_more (s' d n : Nat) : s' % 2 ^ (d + n) = s' % 2 ^ d + 2 ^ d * (s' / 2 ^ d % 2 ^ n) := by rw [Nat.pow_add, Nat.mod_mul]
theorem half_more (s' d n : Nat) (hn : 1 ≤ n) (mo' : Bool) :
  (cond ((mo' || !decide (s' % 2 ^ d = 0)) && decide (halfN (s' / 2 ^ d) n = 0)) 1 (halfN (s' / 2 ^ d) n) : Int) = cond (mo' && decide (halfN s' (d + n) = 0)) 1 (halfN s' (d + n)) := by
 obtain ⟨k, rfl⟩ : ∃ k, n = k + 1 := ⟨n - 1, by omega⟩
 rw [← Nat.add_assoc, halfN_pos, halfN_pos]
 have hm := mod_more s' d (k + 1)
 rw [← Nat.add_assoc] at hm
 have hl := Nat.mod_lt s' (two_pos d)
 have hp : 2 ^ (d + k) = 2 ^ d * 2 ^ k := Nat.pow_add _ _ _
 generalize s' / 2 ^ d % 2 ^ (k + 1) = x at *
 generalize s' % 2 ^ (d + k + 1) = y at *
 generalize s' % 2 ^ d = r at *
 rw [hp]
 clear hp
 have h1 : x < 2 ^ k → y < 2 ^ d * 2 ^ k := fun h => by
  have : 2 ^ d * (x + 1) ≤ 2 ^ d * 2 ^ k := Nat.mul_le_mul_left _ h
  rw [Nat.mul_add] at this; omega
 have h2 : 2 ^ k < x → 2 ^ d * 2 ^ k < y := fun h => by
  have : 2 ^ d * (2 ^ k + 1) ≤ 2 ^ d * x := Nat.mul_le_mul_left _ h
  rw [Nat.mul_add] at this; omega
 rcases Nat.lt_trichotomy x (2 ^ k) with h | h | h
 ·rw [if_pos h, if_pos (h1 h)]; cases mo' <;> simp
 ·have hy : y = r + 2 ^ d * 2 ^ k := by rw [hm, h]
  rw [if_neg (by omega), if_pos h, if_neg (by omega)]
  by_cases hr : r = 0
  ·rw [if_pos (by omega)]; simp [hr]
  ·rw [if_neg (by omega)]; simp [hr]
 ·have := h2 h
  rw [if_neg (by omega), if_neg (by omega), if_neg (by omega), if_neg (by omega)]; cases mo' <;> simp
theorem exact_more (s' d n : Nat) (mo' : Bool) :
  (decide (s' / 2 ^ d % 2 ^ n = 0) && !(mo' || !decide (s' % 2 ^ d = 0))) = (decide (s' % 2 ^ (d + n) = 0) && !mo') := by
 have hm := mod_more s' d n
 have hd := two_pos d
 rw [Bool.eq_iff_iff]
 simp only [Bool.and_eq_true, decide_eq_true_iff, Bool.not_eq_true', Bool.or_eq_false_iff, Bool.not_eq_false']
 rw [hm]
 constructor
 ·rintro ⟨h1, h2, h3⟩; rw [h1, h3]; exact ⟨by simp, h2⟩
 ·rintro ⟨h1, h2⟩
  have h4 : s' % 2 ^ d = 0 := by omega
  have h5 : 2 ^ d * (s' / 2 ^ d % 2 ^ n) = 0 := by omega
  exact ⟨by rcases Nat.mul_eq_zero.1 h5 with h | h <;> omega, h2, h4⟩
theorem grid_finer {s : Nat} {e : Int} {mo : Bool} {s' : Nat} {e' : Int} {mo' : Bool} (h : Finer s e mo s' e' mo') (m : Nat) (neg : Bool) (at_ : Int) (ha : e < at_) :
  gridN m neg s e mo at_ = gridN m neg s' e' mo' at_ := by
 obtain ⟨hle, rfl, rfl⟩ := h
 obtain ⟨d, hd⟩ : ∃ d, (e - e').toNat = d := ⟨_, rfl⟩
 obtain ⟨n, hn⟩ : ∃ n, (at_ - e).toNat = n := ⟨_, rfl⟩
 have hn' : (at_ - e').toNat = d + n := by omega
 unfold gridN
 rw [if_neg (by omega), if_neg (by omega), hd, hn, hn', half_more s' d n (by omega), exact_more, div_more]
theorem grid_same {s : Nat} {e : Int} {s' : Nat} {e' : Int} (h : Finer s e false s' e' false) (m : Nat) (neg : Bool) (at_ : Int) :
  gridN m neg s e false at_ = gridN m neg s' e' false at_ := by
 by_cases ha : e < at_
 ·exact grid_finer h m neg at_ ha
 ·obtain ⟨hle, hs, hm⟩ := h
  obtain ⟨d, hd⟩ : ∃ d, (e - e').toNat = d := ⟨_, rfl⟩
  rw [hd] at hs hm
  have hz : s' % 2 ^ d = 0 := by simpa using hm
  have hs' : s' = s * 2 ^ d := by
   have := Nat.div_add_mod s' (2 ^ d)
   rw [hz, ← hs, Nat.mul_comm] at this; omega
  unfold gridN
  rw [if_pos (by omega)]
  by_cases h2 : at_ ≤ e'
  ·rw [if_pos h2, hs', Nat.mul_assoc, ← Nat.pow_add, show d + (e' - at_).toNat = (e - at_).toNat by omega]
  ·rw [if_neg h2]
   have e1 : 2 ^ d = 2 ^ (at_ - e').toNat * 2 ^ (e - at_).toNat := by rw [← Nat.pow_add, show (at_ - e').toNat + (e - at_).toNat = d by omega]
   have z1 : s' % 2 ^ (at_ - e').toNat = 0 := by rw [hs', e1, Nat.mul_left_comm]; exact Nat.mul_mod_right _ _
   have z2 : s' / 2 ^ (at_ - e').toNat = s * 2 ^ (e - at_).toNat := by rw [hs', e1, Nat.mul_left_comm]; exact Nat.mul_div_cancel_left _ (two_pos _)
   rw [z1, z2]; simp [upB]
theorem lenN_div (a d : Nat) (h : a / 2 ^ d ≠ 0) : lenN (a / 2 ^ d) + d = lenN a := by
 have h1 := lenN_ge _ h
 have h2 := lenN_lt (a / 2 ^ d)
 have h3 := lenN_pos _ h
 symm
 apply lenN_unique
 ·rw [show lenN (a / 2 ^ d) + d - 1 = (lenN (a / 2 ^ d) - 1) + d by omega, Nat.pow_add]
  exact (Nat.le_div_iff_mul_le (two_pos d)).1 h1
 ·rw [Nat.pow_add]
  exact (Nat.div_lt_iff_lt_mul (two_pos d)).1 h2
 ·omega
theorem pack_finer {s : Nat} {e : Int} {mo : Bool} {s' : Nat} {e' : Int} {mo' : Bool} (h : Finer s e mo s' e' mo') (f m : Nat) (neg : Bool) (h0 : s ≠ 0) (hl : mo = true → pF f + 2 ≤ lenN s) :
  packB f m neg s e mo = packB f m neg s' e' mo' := by
 have ht : (lenN s' : Int) - 1 + e' = lenN s - 1 + e := by
  have := lenN_div s' (e - e').toNat (by rw [← h.sig]; exact h0)
  rw [← h.sig] at this
  have := h.le
  omega
 have hg : ∀ at_ : Int, (lenN s : Int) - 1 + e - pF f + 1 ≤ at_ → gridN m neg s e mo at_ = gridN m neg s' e' mo' at_ := by
  intro at_ hat
  cases hmo : mo with
  | true =>
   rw [hmo] at h
   have := hl hmo
   exact grid_finer h m neg at_ (by omega)
  | false =>
   rw [hmo] at h
   have h3 := h.more
   have : mo' = false := by cases mo' with | false => rfl | true => exact absurd h3 (by simp)
   rw [this] at h ⊢
   exact grid_same h m neg at_
 unfold packB tinyB
 rw [ht, hg _ (by unfold atN; omega), hg _ (by omega)]
end Go.Proofs.YtgmhmpflmgfcdaaGreatDoor
