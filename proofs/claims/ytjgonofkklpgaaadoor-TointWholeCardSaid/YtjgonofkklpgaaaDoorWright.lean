/- The contract of wide.Right. -/
import Derived.Test.YtjgonofkklpgaaaDoorWlow
import Derived.Test.YtjgonofkklpgaaaDoorWlen
import Derived.Deep.RegionWith
namespace Go.Proofs.YtjgonofkklpgaaaDoor
open Go.RowKit

theorem bits_sum (hi lo s : Nat) (hs : s ≤ 64) (hl : lo < 2 ^ (64 - s)) (hh : hi < 18446744073709551616) (hm : hi % 2 ^ (64 - s) = 0) : Go.bits .or .u64 (hi : Int) (lo : Int) = ((hi + lo : Nat) : Int) := by
  have h2 : lo < 18446744073709551616 := Nat.lt_of_lt_of_le hl (by rw [B64]; exact Nat.pow_le_pow_right (by decide) (by omega))
  rw [u64_or_nat _ _ hh h2, nat_join (64 - s) _ _ hm hl]
/-- A word of what is shifted to the right by 64 q + s. -/
theorem limbN_right (a q s i : Nat) (hs : s ≤ 64) : limbN (a / 2 ^ (64 * q + s)) i = limbN a (i + q + 1) * 2 ^ (64 - s) % 18446744073709551616 + limbN a (i + q) / 2 ^ s := by
  have e : a / 2 ^ (64 * q + s) / 2 ^ (64 * i) = a / 2 ^ (64 * (i + q)) / 2 ^ s := by
    rw [Nat.div_div_eq_div_mul, Nat.div_div_eq_div_mul, ← Nat.pow_add, ← Nat.pow_add]
    congr 2; omega
  unfold limbN
  rw [e, cat_word _ s hs, Nat.div_div_eq_div_mul, show 64 * (i + q + 1) = 64 * (i + q) + 64 by omega, Nat.pow_add, ← B64]
theorem pw_mono (j i : Nat) (h : j ≤ i) : 2 ^ (64 * j) ≤ 2 ^ (64 * i) := Nat.pow_le_pow_right (by decide) (Nat.mul_le_mul_left 64 h)
theorem high_zero (a i : Nat) (h : a < top6) (hi : 6 ≤ i) : limbN a i = 0 := by
  unfold top6 at h
  unfold limbN
  rw [Nat.div_eq_of_lt (Nat.lt_of_lt_of_le h (pw_mono 6 i hi))]
theorem limb_shr (a i s : Nat) : limb a i / 2 ^ s = ((limbN a i / 2 ^ s : Nat) : Int) := by unfold limb; simp
/-- The words as the text puts them together. -/
theorem right_or (a q s i : Nat) (hs : s < 64) (h : i + q < 5) :
    Go.bits .or .u64 (limb a (i + q) / 2 ^ s) (IntKind.u64.wrap (limb a (i + q + 1) * 2 ^ (64 - s))) = limb (a / 2 ^ (64 * q + s)) i := by
  have h1 : IntKind.u64.wrap (limb a (i + q + 1) * 2 ^ (64 - s)) = ((limbN a (i + q + 1) * 2 ^ (64 - s) % 18446744073709551616 : Nat) : Int) := by
    rw [IntKind.wrap_u64]; unfold limb; simp
  have h2 : limbN a (i + q) / 2 ^ s < 2 ^ (64 - s) := by
    rw [Nat.div_lt_iff_lt_mul (Nat.two_pow_pos s), ← Nat.pow_add, show 64 - s + s = 64 by omega, ← B64]; exact limbN_lt _ _
  have h3 : limbN a (i + q) / 2 ^ s < 18446744073709551616 := Nat.lt_of_le_of_lt (Nat.div_le_self _ _) (limbN_lt _ _)
  have h4 : limbN a (i + q + 1) * 2 ^ (64 - s) % 18446744073709551616 < 18446744073709551616 := Nat.mod_lt _ (by decide)
  have h5 : limbN a (i + q + 1) * 2 ^ (64 - s) % 18446744073709551616 % 2 ^ (64 - s) = 0 := by
    rw [show (18446744073709551616 : Nat) = 2 ^ (64 - s) * 2 ^ s by rw [← Nat.pow_add, show 64 - s + s = 64 by omega], Nat.mod_mul_right_mod, Nat.mul_mod_left]
  rw [limb_shr, h1, u64_or_nat _ _ h3 h4, Nat.or_comm, nat_join (64 - s) _ _ h5 h2]
  unfold limb
  rw [limbN_right a q s i (by omega)]
theorem right_last (a q s i : Nat) (hs : s < 64) (ha : a < top6) (h : i + q = 5) : limb a (i + q) / 2 ^ s = limb (a / 2 ^ (64 * q + s)) i := by
  rw [limb_shr]
  unfold limb
  rw [limbN_right a q s i (by omega), high_zero a (i + q + 1) ha (by omega)]
  simp
theorem right_zero (a q s i : Nat) (hs : s < 64) (ha : a < top6) (h : 6 ≤ i + q) : limb (a / 2 ^ (64 * q + s)) i = 0 := by
  unfold limb
  rw [limbN_right a q s i (by omega), high_zero a (i + q + 1) ha (by omega), high_zero a (i + q) ha h]
  simp

def lostR (a n : Nat) : Bool := !decide (a = 0) && decide (lowN a < n)
theorem limbs_fill0 (f : Nat → Value) (k : Nat) : (fillTo (limbs 0) f k).size = 6 := by rw [fillTo_size]; rfl
theorem set2 (cs : Array Value) (k : Nat) (v : Value) (x y : Int) (h : x = y) : (cs.setIfInBounds k v).setIfInBounds k (.int .u64 x) = cs.setIfInBounds k (.int .u64 y) := by
  rw [h, Array.setIfInBounds_setIfInBounds]
/-- Words that are written no more are 0 already. -/
theorem fill_rest (a q s k : Nat) (hs : s < 64) (ha : a < top6) (hk : k ≤ 6) (h : 6 ≤ k + q) :
    fillTo (limbs 0) (fun i => .int .u64 (limb (a / 2 ^ (64 * q + s)) i)) k = limbs (a / 2 ^ (64 * q + s)) := by
  apply Array.ext_getElem?
  intro j
  by_cases hj : j < 6
  · rw [limbs_get _ j hj]
    by_cases hjk : j < k
    · exact fillTo_lo _ _ k j hjk (by rw [limbs_size]; exact hj)
    · rw [fillTo_hi _ _ k j (by omega), limbs_get 0 j hj, right_zero a q s j hs ha (by omega)]
      unfold limb limbN; rw [Nat.zero_div]; rfl
  · rw [Array.getElem?_eq_none (by rw [fillTo_size, limbs_size]; omega), Array.getElem?_eq_none (by rw [limbs_size]; omega)]

set_option maxHeartbeats 6400000 in
set_option maxRecDepth 100000 in
theorem wideRight_q (a n q s : Nat) (x : Int) (w : World) (ha : a < top6) (hc : min (max x 0) 384 = (n : Int)) (hq : (n : Int) / 64 = (q : Int)) (hs : (n : Int) % 64 = (s : Int)) (hT : Tab w) :
    Calls Tryd.prog 121 #[W a, .int .i64 x] w fun e w' => e = .returned (.tuple #[W (a / 2 ^ (64 * q + s)), .bool (lostR a n)]) ∧ Below w.heap.size w w' := by
  have sa := limbs_size a
  obtain ⟨z, hz⟩ : ∃ z, decide (a = 0) = z := ⟨_, rfl⟩
  have eq0 := fun w => (run_equal_zero w a ha).trans (by rw [hz])
  have hn : n ≤ 384 := by omega
  have s64 : s < 64 := by omega
  have q6 : q ≤ 6 := by omega
  have HA := Lib.hid ha
  have HT := Lib.hid hT
  obtain ⟨l, l1⟩ : ∃ l, decide (lowN a < n) = l := ⟨_, rfl⟩
  have l2 : decide ((lowN a : Int) < (n : Int)) = l := by rw [← l1, Bool.eq_iff_iff, decide_eq_true_iff, decide_eq_true_iff]; omega
  have HL := Lib.hid (show lostR a n = (!z && l) by unfold lostR; rw [hz, l1])
  clear ha hT hz
  cases z
  · go_enter Tryd.func121, Tryd.ntmps121
    go_wp2_with fail
    refine (wideCount_any _ _).mono ?_
    rw [hc]
    rintro e w' ⟨rfl, rfl⟩
    go_wp2_with fail
    refine (wideLow_any a _ HA.out (HT.out.below (((Below.refl _ _).alloc (Nat.le_refl _) _).alloc (by simp) _))).mono ?_
    rintro e w1 ⟨rfl, hb1⟩
    go_wp2_with fail

    simp only [hs]
    go_loopw [8] (fun i wr => ∃ k : Nat, k ≤ 6 ∧ i = .int .i64 k ∧ Blk 35 wr w.heap.size (limbs a) ∧
      Blk 35 wr (w.heap.size + 1) (fillTo (limbs 0) (fun i => .int .u64 (limb (a / 2 ^ (64 * q + s)) i)) k) ∧ Below w.heap.size w wr) (fun i _ => 6 - (intOf i).toNat)
    case atStart =>
      refine ⟨0, by omega, rfl, ?_, ?_, ?_⟩
      · have := ((Blk.new (T := 35) w (limbs a)).alloc (.cells #[.int .u64 0, .int .u64 0, .int .u64 0, .int .u64 0, .int .u64 0, .int .u64 0] 35)).below hb1 (by simp <;> omega)
        simpa using this
      · rw [fillTo, limbs_zero]
        have := (Blk.new (T := 35) (w.alloc (.cells (limbs a) 35)) #[.int .u64 0, .int .u64 0, .int .u64 0, .int .u64 0, .int .u64 0, .int .u64 0]).below hb1 (by simp)
        simpa using this
      · exact (((Below.refl _ _).alloc (Nat.le_refl _) _).alloc (by simp) _).trans (hb1.mono (by simp <;> omega))
    case round =>
      obtain ⟨k, hk, rfl, ha, hs', hbel⟩ := hrel
      by_cases hlt : k + q < 6
      · have ca := ha.cell (k + q) (limbs_get a (k + q) hlt)
        have fb := hs'.free k
        have cb0 := hs'.cell k ((fillTo_hi _ _ k k (Nat.le_refl _)).trans (limbs_get 0 k (by omega)))
        by_cases hl5 : k + q < 5
        · have b2 := hs'.set k (.int .u64 (limb a (k + q) / 2 ^ s)) rfl
          have cb := b2.cell k (v := .int .u64 (limb a (k + q) / 2 ^ s)) (by rw [Array.getElem?_setIfInBounds, if_pos rfl, if_pos (by rw [limbs_fill0]; omega)])
          have fb2 := b2.free k
          have ca2 := (ha.other ⟨w.heap.size + 1, k, none⟩ (.int .u64 (limb a (k + q) / 2 ^ s)) (by simp)).cell (k + q + 1) (limbs_get a (k + q + 1) (by omega))
          have i1 : (k : Int) + (q : Int) + 1 < 6 := by omega
          have i0 : (0 : Int) ≤ (k : Int) + (q : Int) + 1 := by omega
          have iw : IntKind.i64.wrap ((k : Int) + (q : Int) + 1) = (k : Int) + (q : Int) + 1 := IntWalk.i64_in _ (by omega)
          have iv : IntKind.i64.wrap ((k : Int) + (q : Int)) = (k : Int) + (q : Int) := IntWalk.i64_in _ (by omega)
          have it : ((k : Int) + (q : Int) + 1).toNat = k + q + 1 := by omega
          clear b2
          go_wp2_with fail
          go_region_with (fail)
          all_goals go_wp2
          all_goals
            go_roundw
            case rel => exact ⟨k + 1, by omega, by go_num, ((ha.other _ _ (by simp)).other _ _ (by simp)).drew, ((hs'.set k _ rfl).set k _ (set2 _ _ _ _ _ (right_or a q s k s64 hl5))).drew, ((hbel.setCell (by simp) _).setCell (by simp) _).drew⟩
            case measure => simp [intOf]; omega
        · have b5 : ¬ (k : Int) + (q : Int) < 5 := by omega
          go_wp2_with fail
          go_roundw
          case rel => exact ⟨k + 1, by omega, by go_num, ha.other _ _ (by simp), hs'.set k _ (by rw [right_last a q s k s64 HA.out (by omega)]; rfl), hbel.setCell (by simp) _⟩
          case measure => simp [intOf]; omega
      · have F := fill_rest a q s k s64 HA.out hk (by omega)
        rw [F] at hs'
        obtain ⟨c0, c1, c2, c3, c4, c5⟩ := hs'.six
        obtain ⟨f0, f1, f2, f3, f4, f5⟩ := hs'.six_free
        clear F
        go_wp2_with fail
        rw [hs'.keep 0 _ (limbs_get _ 0 (by decide)), hs'.keep 1 _ (limbs_get _ 1 (by decide)), hs'.keep 2 _ (limbs_get _ 2 (by decide)), hs'.keep 3 _ (limbs_get _ 3 (by decide)), hs'.keep 4 _ (limbs_get _ 4 (by decide)), hs'.keep 5 _ (limbs_get _ 5 (by decide))]
        exact bodyPost_ret (v := .tuple #[W (a / 2 ^ (64 * q + s)), .bool _]) (by simp [results, Tryd.results121, go_sem, c0, c1, c2, c3, c4, c5, limbs]; rfl) rfl ⟨by rw [HL.out]; rfl, hbel⟩

  · go_enter Tryd.func121, Tryd.ntmps121
    go_wp2_with fail
    refine (wideCount_any _ _).mono ?_
    rw [hc]
    rintro e w' ⟨rfl, rfl⟩
    go_wp2_with fail

    simp only [hs]
    go_loopw [8] (fun i wr => ∃ k : Nat, k ≤ 6 ∧ i = .int .i64 k ∧ Blk 35 wr w.heap.size (limbs a) ∧
      Blk 35 wr (w.heap.size + 1) (fillTo (limbs 0) (fun i => .int .u64 (limb (a / 2 ^ (64 * q + s)) i)) k) ∧ Below w.heap.size w wr) (fun i _ => 6 - (intOf i).toNat)
    case atStart =>
      refine ⟨0, by omega, rfl, ?_, ?_, ?_⟩
      · have := (Blk.new (T := 35) w (limbs a)).alloc (.cells #[.int .u64 0, .int .u64 0, .int .u64 0, .int .u64 0, .int .u64 0, .int .u64 0] 35)
        simpa using this
      · rw [fillTo, limbs_zero]
        have := Blk.new (T := 35) (w.alloc (.cells (limbs a) 35)) #[.int .u64 0, .int .u64 0, .int .u64 0, .int .u64 0, .int .u64 0, .int .u64 0]
        simpa using this
      · exact ((Below.refl _ _).alloc (Nat.le_refl _) _).alloc (by simp) _
    case round =>
      obtain ⟨k, hk, rfl, ha, hs', hbel⟩ := hrel
      by_cases hlt : k + q < 6
      · have ca := ha.cell (k + q) (limbs_get a (k + q) hlt)
        have fb := hs'.free k
        have cb0 := hs'.cell k ((fillTo_hi _ _ k k (Nat.le_refl _)).trans (limbs_get 0 k (by omega)))
        by_cases hl5 : k + q < 5
        · have b2 := hs'.set k (.int .u64 (limb a (k + q) / 2 ^ s)) rfl
          have cb := b2.cell k (v := .int .u64 (limb a (k + q) / 2 ^ s)) (by rw [Array.getElem?_setIfInBounds, if_pos rfl, if_pos (by rw [limbs_fill0]; omega)])
          have fb2 := b2.free k
          have ca2 := (ha.other ⟨w.heap.size + 1, k, none⟩ (.int .u64 (limb a (k + q) / 2 ^ s)) (by simp)).cell (k + q + 1) (limbs_get a (k + q + 1) (by omega))
          have i1 : (k : Int) + (q : Int) + 1 < 6 := by omega
          have i0 : (0 : Int) ≤ (k : Int) + (q : Int) + 1 := by omega
          have iw : IntKind.i64.wrap ((k : Int) + (q : Int) + 1) = (k : Int) + (q : Int) + 1 := IntWalk.i64_in _ (by omega)
          have iv : IntKind.i64.wrap ((k : Int) + (q : Int)) = (k : Int) + (q : Int) := IntWalk.i64_in _ (by omega)
          have it : ((k : Int) + (q : Int) + 1).toNat = k + q + 1 := by omega
          clear b2
          go_wp2_with fail
          go_region_with (fail)
          all_goals go_wp2
          all_goals
            go_roundw
            case rel => exact ⟨k + 1, by omega, by go_num, ((ha.other _ _ (by simp)).other _ _ (by simp)).drew, ((hs'.set k _ rfl).set k _ (set2 _ _ _ _ _ (right_or a q s k s64 hl5))).drew, ((hbel.setCell (by simp) _).setCell (by simp) _).drew⟩
            case measure => simp [intOf]; omega
        · have b5 : ¬ (k : Int) + (q : Int) < 5 := by omega
          go_wp2_with fail
          go_roundw
          case rel => exact ⟨k + 1, by omega, by go_num, ha.other _ _ (by simp), hs'.set k _ (by rw [right_last a q s k s64 HA.out (by omega)]; rfl), hbel.setCell (by simp) _⟩
          case measure => simp [intOf]; omega
      · have F := fill_rest a q s k s64 HA.out hk (by omega)
        rw [F] at hs'
        obtain ⟨c0, c1, c2, c3, c4, c5⟩ := hs'.six
        obtain ⟨f0, f1, f2, f3, f4, f5⟩ := hs'.six_free
        clear F
        go_wp2_with fail
        rw [hs'.keep 0 _ (limbs_get _ 0 (by decide)), hs'.keep 1 _ (limbs_get _ 1 (by decide)), hs'.keep 2 _ (limbs_get _ 2 (by decide)), hs'.keep 3 _ (limbs_get _ 3 (by decide)), hs'.keep 4 _ (limbs_get _ 4 (by decide)), hs'.keep 5 _ (limbs_get _ 5 (by decide))]
        exact bodyPost_ret (v := .tuple #[W (a / 2 ^ (64 * q + s)), .bool _]) (by simp [results, Tryd.results121, go_sem, c0, c1, c2, c3, c4, c5, limbs]; rfl) rfl ⟨by rw [HL.out]; rfl, hbel⟩

end Go.Proofs.YtjgonofkklpgaaaDoor
