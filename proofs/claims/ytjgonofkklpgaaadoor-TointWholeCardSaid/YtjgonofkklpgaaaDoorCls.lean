/- The contract of kind.class. -/
import Derived.Test.YtjgonofkklpgaaaDoorFld
namespace Go.Proofs.YtjgonofkklpgaaaDoor
open Go.RowKit

set_option maxHeartbeats 3200000 in
set_option maxRecDepth 100000 in
theorem kindClass_nan (f b e t em p : Nat) (neg qb : Bool) (w : World) (hem : em ≤ 16383) (hp1 : 11 ≤ p) (hp2 : p ≤ 113) (ht : t < top6) (hT : Tab w)
    (cF : ∀ w, Tab w → Calls Tryd.prog 118 #[.int .u8 f, BV b] w fun e' w' => e' = .returned (.tuple #[.bool neg, .int .i64 (e : Nat), W t]) ∧ Below w.heap.size w w')
    (cE : ∀ w, Calls Tryd.prog 74 #[.int .u8 f] w fun e' w' => e' = .returned (.int .i64 (em : Nat)) ∧ Below w.heap.size w w')
    (cP : ∀ w, Calls Tryd.prog 75 #[.int .u8 f] w fun e' w' => e' = .returned (.int .i64 (p : Nat)) ∧ Below w.heap.size w w')
    (hz : decide (t = 0) = false) (hx : (e : Int) = 2 * (em : Int) + 1) (hy : 0 < (e : Int)) (hq : t.testBit (p - 2) = qb) :
    Calls Tryd.prog 70 #[.int .u8 f, BV b] w fun e' w' => e' = .returned (.int .u8 (cond qb 9 8)) ∧ Below w.heap.size w w' := by
  have eq0 := fun w => (run_equal_zero w t ht).trans (by rw [hz])
  have eq1 : ∀ w, (Op.equalIn 10000 35 (.agg (limbs t)) (.agg #[.int .u64 0, .int .u64 0, .int .u64 0, .int .u64 0, .int .u64 0, .int .u64 0])).run Tryd.prog w = .ok false w := eq0
  have vp : IntKind.i64.wrap ((p : Int) - 2) = ((p - 2 : Nat) : Int) := by rw [show (p : Int) - 2 = ((p - 2 : Nat) : Int) by omega]; exact IntWalk.i64_in _ (by omega)
  have HT := Lib.hid (hT.below ((Below.refl w.heap.size w).alloc (Nat.le_refl _) (.cells #[.int .u64 (limb b 1), .int .u64 (limb b 0)] 26 (0, 0))))
  have HA := Lib.hid ht
  obtain ⟨r, hr⟩ : ∃ r, p - 2 = r := ⟨_, rfl⟩
  rw [hr] at vp hq
  have hxb : ((e : Int) == 2 * (em : Int) + 1) = true := by simp; omega
  have hyb : ((e : Int) == 0) = false := by simp; omega
  clear ht hz hT hp1 hp2 hr
  cases neg <;> cases qb <;>
  · go_enter Tryd.func70, Tryd.ntmps70
    go_wp2_with fail
    refine (cF _ HT.out).mono ?_
    rintro e' w1 ⟨rfl, hb1⟩
    go_wp2_with fail
    refine (cE _).mono ?_
    rintro e' w2 ⟨rfl, hb2⟩
    have b7 : Blk 35 w2 w1.heap.size (limbs t) := (Blk.new w1 (limbs t)).below hb2 (by simp)
    obtain ⟨c0, c1, c2, c3, c4, c5⟩ := b7.six
    go_wp2_with fail
    go_region_held3 (fun w' => w'.cell? ⟨w1.heap.size, 0, none⟩ = some (.int .u64 (limb t 0)) ∧ w'.cell? ⟨w1.heap.size, 1, none⟩ = some (.int .u64 (limb t 1)) ∧ w'.cell? ⟨w1.heap.size, 2, none⟩ = some (.int .u64 (limb t 2)) ∧ w'.cell? ⟨w1.heap.size, 3, none⟩ = some (.int .u64 (limb t 3)) ∧ w'.cell? ⟨w1.heap.size, 4, none⟩ = some (.int .u64 (limb t 4)) ∧ w'.cell? ⟨w1.heap.size, 5, none⟩ = some (.int .u64 (limb t 5)))
      (first | with_reducible exact ⟨g0, g1, g2, g3, g4, g5⟩ | with_reducible exact ⟨k0, k1, k2, k3, k4, k5⟩ | exact ⟨c0, c1, c2, c3, c4, c5⟩)
      (first
      | (go_at_call 75; refine (cP _).mono ?_; rintro e' w3 ⟨rfl, hb3⟩; have B3 := b7.drew.below hb3 b7.lt; obtain ⟨k0, k1, k2, k3, k4, k5⟩ := B3.six)
      | (go_at_call 94; refine (wideBit_any t (r : Int) _).mono ?_; rw [bitI_in t r HA.out, hq]; rintro e' w4 ⟨rfl, hb4⟩; obtain ⟨g0, g1, g2, g3, g4, g5⟩ := (B3.below hb4 B3.lt).six))
    all_goals
      have hs1 := hb1.size
      have hs2 := hb2.size
      have hs3 := hb3.size
      simp at hs1 hs2
      have HF := Lib.hid ((((((((Below.refl w.heap.size w).alloc (Nat.le_refl _) (.cells #[.int .u64 (limb b 1), .int .u64 (limb b 0)] 26 (0, 0))).trans (hb1.mono (by simp))).alloc (by omega) (.cells (limbs t) 35 (0, 0))).trans (hb2.mono (by simp; omega))).drew).trans (hb3.mono (by have := b7.lt; simp; omega))).trans (hb4.mono (by have := B3.lt; omega)))
      clear hs1 hs2 hs3 hb1 hb2 hb3 hb4 b7 B3
      go_wp2
      go_ret
      exact ⟨rfl, HF.out⟩
set_option maxHeartbeats 3200000 in
set_option maxRecDepth 100000 in
theorem kindClass_inf (f b e t em p : Nat) (neg qb : Bool) (w : World) (hem : em ≤ 16383) (hp1 : 11 ≤ p) (hp2 : p ≤ 113) (ht : t < top6) (hT : Tab w)
    (cF : ∀ w, Tab w → Calls Tryd.prog 118 #[.int .u8 f, BV b] w fun e' w' => e' = .returned (.tuple #[.bool neg, .int .i64 (e : Nat), W t]) ∧ Below w.heap.size w w')
    (cE : ∀ w, Calls Tryd.prog 74 #[.int .u8 f] w fun e' w' => e' = .returned (.int .i64 (em : Nat)) ∧ Below w.heap.size w w')
    (cP : ∀ w, Calls Tryd.prog 75 #[.int .u8 f] w fun e' w' => e' = .returned (.int .i64 (p : Nat)) ∧ Below w.heap.size w w')
    (hz : decide (t = 0) = true) (hx : (e : Int) = 2 * (em : Int) + 1) (hy : 0 < (e : Int)) :
    Calls Tryd.prog 70 #[.int .u8 f, BV b] w fun e' w' => e' = .returned (.int .u8 (cond neg (7 - 7) 7)) ∧ Below w.heap.size w w' := by
  have eq0 := fun w => (run_equal_zero w t ht).trans (by rw [hz])
  have eq1 : ∀ w, (Op.equalIn 10000 35 (.agg (limbs t)) (.agg #[.int .u64 0, .int .u64 0, .int .u64 0, .int .u64 0, .int .u64 0, .int .u64 0])).run Tryd.prog w = .ok true w := eq0
  have vp : IntKind.i64.wrap ((p : Int) - 2) = ((p - 2 : Nat) : Int) := by rw [show (p : Int) - 2 = ((p - 2 : Nat) : Int) by omega]; exact IntWalk.i64_in _ (by omega)
  have HT := Lib.hid (hT.below ((Below.refl w.heap.size w).alloc (Nat.le_refl _) (.cells #[.int .u64 (limb b 1), .int .u64 (limb b 0)] 26 (0, 0))))
  have HA := Lib.hid ht
  have hxb : ((e : Int) == 2 * (em : Int) + 1) = true := by simp; omega
  have hyb : ((e : Int) == 0) = false := by simp; omega
  clear ht hz hT hp1 hp2 vp
  cases neg <;>
  · go_enter Tryd.func70, Tryd.ntmps70
    go_wp2_with fail
    refine (cF _ HT.out).mono ?_
    rintro e' w1 ⟨rfl, hb1⟩
    go_wp2_with fail
    refine (cE _).mono ?_
    rintro e' w2 ⟨rfl, hb2⟩
    go_wp2_with fail
    refine (cE _).mono ?_
    rintro e' w3 ⟨rfl, hb3⟩
    go_wp2
    go_ret
    have hs1 := hb1.size
    have hs2 := hb2.size
    simp at hs1 hs2
    exact ⟨rfl, (((((Below.refl w.heap.size w).alloc (Nat.le_refl _) (.cells #[.int .u64 (limb b 1), .int .u64 (limb b 0)] 26 (0, 0))).trans (hb1.mono (by simp))).alloc (by omega) (.cells (limbs t) 35 (0, 0))).trans (hb2.mono (by simp; omega))).trans (hb3.mono (by omega))⟩
set_option maxHeartbeats 3200000 in
set_option maxRecDepth 100000 in
theorem kindClass_nor (f b e t em p : Nat) (neg qb : Bool) (w : World) (hem : em ≤ 16383) (hp1 : 11 ≤ p) (hp2 : p ≤ 113) (ht : t < top6) (hT : Tab w)
    (cF : ∀ w, Tab w → Calls Tryd.prog 118 #[.int .u8 f, BV b] w fun e' w' => e' = .returned (.tuple #[.bool neg, .int .i64 (e : Nat), W t]) ∧ Below w.heap.size w w')
    (cE : ∀ w, Calls Tryd.prog 74 #[.int .u8 f] w fun e' w' => e' = .returned (.int .i64 (em : Nat)) ∧ Below w.heap.size w w')
    (cP : ∀ w, Calls Tryd.prog 75 #[.int .u8 f] w fun e' w' => e' = .returned (.int .i64 (p : Nat)) ∧ Below w.heap.size w w')
    (hz : decide (t = 0) = false) (hx : ¬ (e : Int) = 2 * (em : Int) + 1) (hy : 0 < (e : Int)) :
    Calls Tryd.prog 70 #[.int .u8 f, BV b] w fun e' w' => e' = .returned (.int .u8 (cond neg (7 - 6) 6)) ∧ Below w.heap.size w w' := by
  have eq0 := fun w => (run_equal_zero w t ht).trans (by rw [hz])
  have eq1 : ∀ w, (Op.equalIn 10000 35 (.agg (limbs t)) (.agg #[.int .u64 0, .int .u64 0, .int .u64 0, .int .u64 0, .int .u64 0, .int .u64 0])).run Tryd.prog w = .ok false w := eq0
  have vp : IntKind.i64.wrap ((p : Int) - 2) = ((p - 2 : Nat) : Int) := by rw [show (p : Int) - 2 = ((p - 2 : Nat) : Int) by omega]; exact IntWalk.i64_in _ (by omega)
  have HT := Lib.hid (hT.below ((Below.refl w.heap.size w).alloc (Nat.le_refl _) (.cells #[.int .u64 (limb b 1), .int .u64 (limb b 0)] 26 (0, 0))))
  have HA := Lib.hid ht
  have hxb : ((e : Int) == 2 * (em : Int) + 1) = false := by simp; omega
  have hyb : ((e : Int) == 0) = false := by simp; omega
  clear ht hz hT hp1 hp2 vp
  cases neg <;>
  · go_enter Tryd.func70, Tryd.ntmps70
    go_wp2_with fail
    refine (cF _ HT.out).mono ?_
    rintro e' w1 ⟨rfl, hb1⟩
    go_wp2_with fail
    refine (cE _).mono ?_
    rintro e' w2 ⟨rfl, hb2⟩
    go_wp2
    go_ret
    have hs1 := hb1.size
    have hs2 := hb2.size
    simp at hs1 hs2
    exact ⟨rfl, ((((Below.refl w.heap.size w).alloc (Nat.le_refl _) (.cells #[.int .u64 (limb b 1), .int .u64 (limb b 0)] 26 (0, 0))).trans (hb1.mono (by simp))).alloc (by omega) (.cells (limbs t) 35 (0, 0))).trans (hb2.mono (by simp; omega))⟩
set_option maxHeartbeats 3200000 in
set_option maxRecDepth 100000 in
theorem kindClass_pow (f b e t em p : Nat) (neg qb : Bool) (w : World) (hem : em ≤ 16383) (hp1 : 11 ≤ p) (hp2 : p ≤ 113) (ht : t < top6) (hT : Tab w)
    (cF : ∀ w, Tab w → Calls Tryd.prog 118 #[.int .u8 f, BV b] w fun e' w' => e' = .returned (.tuple #[.bool neg, .int .i64 (e : Nat), W t]) ∧ Below w.heap.size w w')
    (cE : ∀ w, Calls Tryd.prog 74 #[.int .u8 f] w fun e' w' => e' = .returned (.int .i64 (em : Nat)) ∧ Below w.heap.size w w')
    (cP : ∀ w, Calls Tryd.prog 75 #[.int .u8 f] w fun e' w' => e' = .returned (.int .i64 (p : Nat)) ∧ Below w.heap.size w w')
    (hz : decide (t = 0) = true) (hx : ¬ (e : Int) = 2 * (em : Int) + 1) (hy : 0 < (e : Int)) :
    Calls Tryd.prog 70 #[.int .u8 f, BV b] w fun e' w' => e' = .returned (.int .u8 (cond neg (7 - 6) 6)) ∧ Below w.heap.size w w' := by
  have eq0 := fun w => (run_equal_zero w t ht).trans (by rw [hz])
  have eq1 : ∀ w, (Op.equalIn 10000 35 (.agg (limbs t)) (.agg #[.int .u64 0, .int .u64 0, .int .u64 0, .int .u64 0, .int .u64 0, .int .u64 0])).run Tryd.prog w = .ok true w := eq0
  have vp : IntKind.i64.wrap ((p : Int) - 2) = ((p - 2 : Nat) : Int) := by rw [show (p : Int) - 2 = ((p - 2 : Nat) : Int) by omega]; exact IntWalk.i64_in _ (by omega)
  have HT := Lib.hid (hT.below ((Below.refl w.heap.size w).alloc (Nat.le_refl _) (.cells #[.int .u64 (limb b 1), .int .u64 (limb b 0)] 26 (0, 0))))
  have HA := Lib.hid ht
  have hxb : ((e : Int) == 2 * (em : Int) + 1) = false := by simp; omega
  have hyb : ((e : Int) == 0) = false := by simp; omega
  clear ht hz hT hp1 hp2 vp
  cases neg <;>
  · go_enter Tryd.func70, Tryd.ntmps70
    go_wp2_with fail
    refine (cF _ HT.out).mono ?_
    rintro e' w1 ⟨rfl, hb1⟩
    go_wp2_with fail
    refine (cE _).mono ?_
    rintro e' w2 ⟨rfl, hb2⟩
    go_wp2_with fail
    refine (cE _).mono ?_
    rintro e' w3 ⟨rfl, hb3⟩
    go_wp2
    go_ret
    have hs1 := hb1.size
    have hs2 := hb2.size
    simp at hs1 hs2
    exact ⟨rfl, (((((Below.refl w.heap.size w).alloc (Nat.le_refl _) (.cells #[.int .u64 (limb b 1), .int .u64 (limb b 0)] 26 (0, 0))).trans (hb1.mono (by simp))).alloc (by omega) (.cells (limbs t) 35 (0, 0))).trans (hb2.mono (by simp; omega))).trans (hb3.mono (by omega))⟩
set_option maxHeartbeats 3200000 in
set_option maxRecDepth 100000 in
theorem kindClass_sub (f b e t em p : Nat) (neg qb : Bool) (w : World) (hem : em ≤ 16383) (hp1 : 11 ≤ p) (hp2 : p ≤ 113) (ht : t < top6) (hT : Tab w)
    (cF : ∀ w, Tab w → Calls Tryd.prog 118 #[.int .u8 f, BV b] w fun e' w' => e' = .returned (.tuple #[.bool neg, .int .i64 (e : Nat), W t]) ∧ Below w.heap.size w w')
    (cE : ∀ w, Calls Tryd.prog 74 #[.int .u8 f] w fun e' w' => e' = .returned (.int .i64 (em : Nat)) ∧ Below w.heap.size w w')
    (cP : ∀ w, Calls Tryd.prog 75 #[.int .u8 f] w fun e' w' => e' = .returned (.int .i64 (p : Nat)) ∧ Below w.heap.size w w')
    (hz : decide (t = 0) = false) (hx : ¬ (e : Int) = 2 * (em : Int) + 1) (hy : (e : Int) = 0) :
    Calls Tryd.prog 70 #[.int .u8 f, BV b] w fun e' w' => e' = .returned (.int .u8 (cond neg (7 - 5) 5)) ∧ Below w.heap.size w w' := by
  have eq0 := fun w => (run_equal_zero w t ht).trans (by rw [hz])
  have eq1 : ∀ w, (Op.equalIn 10000 35 (.agg (limbs t)) (.agg #[.int .u64 0, .int .u64 0, .int .u64 0, .int .u64 0, .int .u64 0, .int .u64 0])).run Tryd.prog w = .ok false w := eq0
  have vp : IntKind.i64.wrap ((p : Int) - 2) = ((p - 2 : Nat) : Int) := by rw [show (p : Int) - 2 = ((p - 2 : Nat) : Int) by omega]; exact IntWalk.i64_in _ (by omega)
  have HT := Lib.hid (hT.below ((Below.refl w.heap.size w).alloc (Nat.le_refl _) (.cells #[.int .u64 (limb b 1), .int .u64 (limb b 0)] 26 (0, 0))))
  have HA := Lib.hid ht
  have hxb : ((e : Int) == 2 * (em : Int) + 1) = false := by simp; omega
  have hyb : ((e : Int) == 0) = true := by simp; omega
  clear ht hz hT hp1 hp2 vp
  cases neg <;>
  · go_enter Tryd.func70, Tryd.ntmps70
    go_wp2_with fail
    refine (cF _ HT.out).mono ?_
    rintro e' w1 ⟨rfl, hb1⟩
    go_wp2_with fail
    refine (cE _).mono ?_
    rintro e' w2 ⟨rfl, hb2⟩
    go_wp2
    go_ret
    have hs1 := hb1.size
    have hs2 := hb2.size
    simp at hs1 hs2
    exact ⟨rfl, ((((Below.refl w.heap.size w).alloc (Nat.le_refl _) (.cells #[.int .u64 (limb b 1), .int .u64 (limb b 0)] 26 (0, 0))).trans (hb1.mono (by simp))).alloc (by omega) (.cells (limbs t) 35 (0, 0))).trans (hb2.mono (by simp; omega))⟩
set_option maxHeartbeats 3200000 in
set_option maxRecDepth 100000 in
theorem kindClass_zer (f b e t em p : Nat) (neg qb : Bool) (w : World) (hem : em ≤ 16383) (hp1 : 11 ≤ p) (hp2 : p ≤ 113) (ht : t < top6) (hT : Tab w)
    (cF : ∀ w, Tab w → Calls Tryd.prog 118 #[.int .u8 f, BV b] w fun e' w' => e' = .returned (.tuple #[.bool neg, .int .i64 (e : Nat), W t]) ∧ Below w.heap.size w w')
    (cE : ∀ w, Calls Tryd.prog 74 #[.int .u8 f] w fun e' w' => e' = .returned (.int .i64 (em : Nat)) ∧ Below w.heap.size w w')
    (cP : ∀ w, Calls Tryd.prog 75 #[.int .u8 f] w fun e' w' => e' = .returned (.int .i64 (p : Nat)) ∧ Below w.heap.size w w')
    (hz : decide (t = 0) = true) (hx : ¬ (e : Int) = 2 * (em : Int) + 1) (hy : (e : Int) = 0) :
    Calls Tryd.prog 70 #[.int .u8 f, BV b] w fun e' w' => e' = .returned (.int .u8 (cond neg (7 - 4) 4)) ∧ Below w.heap.size w w' := by
  have eq0 := fun w => (run_equal_zero w t ht).trans (by rw [hz])
  have eq1 : ∀ w, (Op.equalIn 10000 35 (.agg (limbs t)) (.agg #[.int .u64 0, .int .u64 0, .int .u64 0, .int .u64 0, .int .u64 0, .int .u64 0])).run Tryd.prog w = .ok true w := eq0
  have vp : IntKind.i64.wrap ((p : Int) - 2) = ((p - 2 : Nat) : Int) := by rw [show (p : Int) - 2 = ((p - 2 : Nat) : Int) by omega]; exact IntWalk.i64_in _ (by omega)
  have HT := Lib.hid (hT.below ((Below.refl w.heap.size w).alloc (Nat.le_refl _) (.cells #[.int .u64 (limb b 1), .int .u64 (limb b 0)] 26 (0, 0))))
  have HA := Lib.hid ht
  have hxb : ((e : Int) == 2 * (em : Int) + 1) = false := by simp; omega
  have hyb : ((e : Int) == 0) = true := by simp; omega
  clear ht hz hT hp1 hp2 vp
  cases neg <;>
  · go_enter Tryd.func70, Tryd.ntmps70
    go_wp2_with fail
    refine (cF _ HT.out).mono ?_
    rintro e' w1 ⟨rfl, hb1⟩
    go_wp2_with fail
    refine (cE _).mono ?_
    rintro e' w2 ⟨rfl, hb2⟩
    go_wp2
    go_ret
    have hs1 := hb1.size
    have hs2 := hb2.size
    simp at hs1 hs2
    exact ⟨rfl, ((((Below.refl w.heap.size w).alloc (Nat.le_refl _) (.cells #[.int .u64 (limb b 1), .int .u64 (limb b 0)] 26 (0, 0))).trans (hb1.mono (by simp))).alloc (by omega) (.cells (limbs t) 35 (0, 0))).trans (hb2.mono (by simp; omega))⟩

end Go.Proofs.YtjgonofkklpgaaaDoor
