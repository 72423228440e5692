/- The contract of jam.Cut. -/
import Derived.Test.YtjgonofkklpgaaaDoorJam
import Derived.RegionTactic
import Derived.Deep.RegionHeld3
namespace Go.Proofs.YtjgonofkklpgaaaDoor
open Go.RowKit

theorem testBit_big (a n : Nat) (h : a < top6) (hn : 384 ≤ n) : a.testBit n = false := Nat.testBit_lt_two_pow (Nat.lt_of_lt_of_le h (top6_le n hn))
theorem bitI_in (a m : Nat) (h : a < top6) : bitI a (m : Int) = a.testBit m := by
  unfold bitI
  by_cases hm : m < 384
  · rw [decide_eq_true (by omega : (0 : Int) ≤ (m : Int)), decide_eq_true (by omega : (m : Int) < 384)]; simp
  · rw [testBit_big a m h (by omega), decide_eq_false (by omega : ¬ (m : Int) < 384)]; simp
theorem jam_ret {a b : Nat} {x y : Int} {u v : Bool} (h1 : a = b) (h2 : x = y) (h3 : u = v) : Ending.returned (.tuple #[W a, .int .i64 x, .bool u]) = .returned (.tuple #[W b, .int .i64 y, .bool v]) := by rw [h1, h2, h3]
theorem mod_zero_of (a n : Nat) : a % 2 ^ n % 2 ^ n = a % 2 ^ n := Nat.mod_mod _ _

@[go_sem] theorem limbs_toList (a : Nat) : (limbs a).toList = [.int .u64 (limb a 0), .int .u64 (limb a 1), .int .u64 (limb a 2), .int .u64 (limb a 3), .int .u64 (limb a 4), .int .u64 (limb a 5)] := rfl

/-- A number stored over a block of six. -/
def put6 (w : World) (g y : Nat) : World := (((((w.setCell ⟨g, 0, none⟩ (.int .u64 (limb y 0))).setCell ⟨g, 1, none⟩ (.int .u64 (limb y 1))).setCell ⟨g, 2, none⟩ (.int .u64 (limb y 2))).setCell ⟨g, 3, none⟩ (.int .u64 (limb y 3))).setCell ⟨g, 4, none⟩ (.int .u64 (limb y 4))).setCell ⟨g, 5, none⟩ (.int .u64 (limb y 5))
theorem Blk.put6 {T : TypeId} {w : World} {g : Nat} {cs : Array Value} (h : Blk T w g cs) (hs : cs.size = 6) (y : Nat) : Blk T (put6 w g y) g (limbs y) := h.store6 hs _ _ _ _ _ _
theorem Blk.put6_other {T : TypeId} {w : World} {g k : Nat} {cs : Array Value} (h : Blk T w g cs) (y : Nat) (hne : g ≠ k) : Blk T (Go.Proofs.YtjgonofkklpgaaaDoor.put6 w k y) g cs :=
  (((((h.other _ _ hne).other _ _ hne).other _ _ hne).other _ _ hne).other _ _ hne).other _ _ hne
theorem below_put6 {B : Nat} {w0 w : World} {g : Nat} (hb : Below B w0 w) (hg : B ≤ g) (y : Nat) : Below B w0 (put6 w g y) := below_set6 hb hg _ _ _ _ _ _
theorem put6_size (w : World) (g y : Nat) : (put6 w g y).heap.size = w.heap.size := by unfold put6; simp
/-- Stored back what it has. -/
theorem Blk.again {T : TypeId} {w : World} {g y : Nat} (h : Blk T w g (limbs y)) : Go.Proofs.YtjgonofkklpgaaaDoor.put6 w g y = w := by
  unfold Go.Proofs.YtjgonofkklpgaaaDoor.put6
  rw [h.keep 0 _ (limbs_get _ 0 (by decide)), h.keep 1 _ (limbs_get _ 1 (by decide)), h.keep 2 _ (limbs_get _ 2 (by decide)), h.keep 3 _ (limbs_get _ 3 (by decide)), h.keep 4 _ (limbs_get _ 4 (by decide)), h.keep 5 _ (limbs_get _ 5 (by decide))]

set_option maxHeartbeats 6400000 in
set_option maxRecDepth 100000 in
theorem jamCut_in (a m : Nat) (w : World) (ha : a < top6) (hT : Tab w) (hm : m < 384) :
    Calls Tryd.prog 58 #[W a, .int .i64 ((m : Int) + 1)] w fun e w' => e = .returned (.tuple #[W (a / 2 ^ (m + 1)), .int .i64 (halfN a (m + 1)), .bool (decide (a % 2 ^ (m + 1) = 0))]) ∧ Below w.heap.size w w' := by
  have sa := limbs_size a
  have HA := Lib.hid ha
  have HT := Lib.hid hT
  obtain ⟨z, hz⟩ : ∃ z, decide (a % 2 ^ m = 0) = z := ⟨_, rfl⟩
  obtain ⟨t, ht⟩ : ∃ t, a.testBit m = t := ⟨_, rfl⟩
  obtain ⟨x, hx⟩ : ∃ x, decide (a % 2 ^ (m + 1) = 0) = x := ⟨_, rfl⟩
  have HH : Hid (halfN a (m + 1) = cond t (cond z 0 1) (-1)) := by
    apply Lib.hid
    unfold halfN
    rw [if_neg (by omega), show m + 1 - 1 = m from rfl, ht, ← hz]
    cases t <;> by_cases h : a % 2 ^ m = 0 <;> simp [h]
  have eq0 := fun w => (run_equal_zero w (a % 2 ^ m) (Nat.lt_of_le_of_lt (Nat.mod_le _ _) ha)).trans (by rw [hz])
  have eq1 : ∀ w, (Op.equalIn 10000 35 (.agg (limbs (a % 2 ^ m))) (.agg #[.int .u64 0, .int .u64 0, .int .u64 0, .int .u64 0, .int .u64 0, .int .u64 0])).run Tryd.prog w = .ok z w := eq0
  have hc : min (max ((m : Int) + 1) 0) 385 = (m : Int) + 1 := by omega
  have h0 : ((m : Int) + 1 == 0) = false := by simp; omega
  have h5 : ((m : Int) + 1 == 385) = false := by simp; omega
  have hs : IntKind.i64.wrap ((m : Int) + 1 - 1) = (m : Int) := by rw [show (m : Int) + 1 - 1 = (m : Int) by omega]; exact IntWalk.i64_in _ (by omega)
  have ms : (m : Int) + 1 - 1 = (m : Int) := by omega
  have tn : ((m : Int) + 1).toNat = m + 1 := by omega
  rw [hx]
  have HX := Lib.hid hx
  clear ha hT hx hz
  cases t
  · go_enter Tryd.func58, Tryd.ntmps58
    go_wp2_with fail
    refine (wideRight_n a _ _ HA.out (HT.out.below (((Below.refl _ _).alloc (Nat.le_refl _) _).alloc (by simp) _))).mono ?_
    rw [tn, HX.out]
    rintro e w1 ⟨rfl, hb1⟩
    have b4 : Blk 35 w1 (w.heap.size + 1) (limbs 0) := by
      rw [limbs_zero]
      have := (Blk.new (T := 35) (w.alloc (.cells (limbs a) 35)) #[.int .u64 0, .int .u64 0, .int .u64 0, .int .u64 0, .int .u64 0, .int .u64 0]).below hb1 (by simp)
      simpa using this
    have b2 : Blk 35 w1 w.heap.size (limbs a) := by
      have := ((Blk.new (T := 35) w (limbs a)).alloc (.cells #[.int .u64 0, .int .u64 0, .int .u64 0, .int .u64 0, .int .u64 0, .int .u64 0] 35)).below hb1 (by simp <;> omega)
      simpa using this
    obtain ⟨f0, f1, f2, f3, f4, f5⟩ := b4.six_free
    obtain ⟨c0, c1, c2, c3, c4, c5⟩ := b2.six
    obtain ⟨d0, d1, d2, d3, d4, d5⟩ := b4.six
    go_wp2_with fail
    refine (wideBit_any a m (put6 w1 (w.heap.size + 1) (a / 2 ^ (m + 1)))).mono ?_
    rw [bitI_in a m HA.out, ht]
    rintro e w2 ⟨rfl, hb2⟩
    have hb := (below_put6 (((((Below.refl _ _).alloc (Nat.le_refl _) _).alloc (by simp) _).trans (hb1.mono (by simp <;> omega)))) (by omega : w.heap.size ≤ w.heap.size + 1) (a / 2 ^ (m + 1))).trans (hb2.mono (by rw [put6_size]; exact Nat.le_of_lt b2.lt))
    replace b2 := (b2.put6_other (a / 2 ^ (m + 1)) (show w.heap.size ≠ w.heap.size + 1 by omega)).below hb2 (by rw [put6_size]; exact b2.lt)
    replace b4 := (b4.put6 rfl (a / 2 ^ (m + 1))).below hb2 (by rw [put6_size]; exact b4.lt)
    clear f0 f1 f2 f3 f4 f5 c0 c1 c2 c3 c4 c5 d0 d1 d2 d3 d4 d5
    clear hb1 hb2
    obtain ⟨f0, f1, f2, f3, f4, f5⟩ := b4.six_free
    obtain ⟨d0, d1, d2, d3, d4, d5⟩ := b4.six
    go_wp2_with fail
    have hk := b4.again
    unfold put6 at hk
    rw [hk]
    exact bodyPost_ret (v := .tuple #[W (a / 2 ^ (m + 1)), .int .i64 (-1), .bool x]) (by simp [results, Tryd.results58, go_sem, d0, d1, d2, d3, d4, d5, limbs]) rfl ⟨jam_ret rfl (by rw [HH.out]; rfl) rfl, hb⟩
  · go_enter Tryd.func58, Tryd.ntmps58
    go_wp2_with fail
    refine (wideRight_n a _ _ HA.out (HT.out.below (((Below.refl _ _).alloc (Nat.le_refl _) _).alloc (by simp) _))).mono ?_
    rw [tn, HX.out]
    rintro e w1 ⟨rfl, hb1⟩
    have b4 : Blk 35 w1 (w.heap.size + 1) (limbs 0) := by
      rw [limbs_zero]
      have := (Blk.new (T := 35) (w.alloc (.cells (limbs a) 35)) #[.int .u64 0, .int .u64 0, .int .u64 0, .int .u64 0, .int .u64 0, .int .u64 0]).below hb1 (by simp)
      simpa using this
    have b2 : Blk 35 w1 w.heap.size (limbs a) := by
      have := ((Blk.new (T := 35) w (limbs a)).alloc (.cells #[.int .u64 0, .int .u64 0, .int .u64 0, .int .u64 0, .int .u64 0, .int .u64 0] 35)).below hb1 (by simp <;> omega)
      simpa using this
    obtain ⟨f0, f1, f2, f3, f4, f5⟩ := b4.six_free
    obtain ⟨c0, c1, c2, c3, c4, c5⟩ := b2.six
    obtain ⟨d0, d1, d2, d3, d4, d5⟩ := b4.six
    go_wp2_with fail
    refine (wideBit_any a m (put6 w1 (w.heap.size + 1) (a / 2 ^ (m + 1)))).mono ?_
    rw [bitI_in a m HA.out, ht]
    rintro e w2 ⟨rfl, hb2⟩
    have hb := (below_put6 (((((Below.refl _ _).alloc (Nat.le_refl _) _).alloc (by simp) _).trans (hb1.mono (by simp <;> omega)))) (by omega : w.heap.size ≤ w.heap.size + 1) (a / 2 ^ (m + 1))).trans (hb2.mono (by rw [put6_size]; exact Nat.le_of_lt b2.lt))
    replace b2 := (b2.put6_other (a / 2 ^ (m + 1)) (show w.heap.size ≠ w.heap.size + 1 by omega)).below hb2 (by rw [put6_size]; exact b2.lt)
    replace b4 := (b4.put6 rfl (a / 2 ^ (m + 1))).below hb2 (by rw [put6_size]; exact b4.lt)
    clear f0 f1 f2 f3 f4 f5 c0 c1 c2 c3 c4 c5 d0 d1 d2 d3 d4 d5
    clear hb1 hb2
    obtain ⟨f0, f1, f2, f3, f4, f5⟩ := b4.six_free
    obtain ⟨d0, d1, d2, d3, d4, d5⟩ := b4.six
    obtain ⟨c0, c1, c2, c3, c4, c5⟩ := b2.six
    go_wp2_with fail
    have l2 := b2.lt
    have m4 : (m : Int) ≤ 384 := by omega
    have wm : IntKind.i64.wrap (m : Int) = (m : Int) := IntWalk.i64_in _ (by omega)
    have b2 := b2.drew
    have hb := hb.drew
    clear hm ms tn h0 h5 hc
    go_region_held3 (fun w' => w'.cell? ⟨w.heap.size, 0, none⟩ = some (.int .u64 (limb a 0)) ∧ w'.cell? ⟨w.heap.size, 1, none⟩ = some (.int .u64 (limb a 1)) ∧ w'.cell? ⟨w.heap.size, 2, none⟩ = some (.int .u64 (limb a 2)) ∧ w'.cell? ⟨w.heap.size, 3, none⟩ = some (.int .u64 (limb a 3)) ∧ w'.cell? ⟨w.heap.size, 4, none⟩ = some (.int .u64 (limb a 4)) ∧ w'.cell? ⟨w.heap.size, 5, none⟩ = some (.int .u64 (limb a 5))) (first | exact ⟨c0, c1, c2, c3, c4, c5⟩ | exact ⟨g0, g1, g2, g3, g4, g5⟩ | exact ⟨k0, k1, k2, k3, k4, k5⟩)
      (first
      | (go_at_call 123; refine (wideMask_n (m : Int) _ m4).mono ?_; rw [Int.toNat_natCast]; rintro e w3 ⟨rfl, hb3⟩; obtain ⟨g0, g1, g2, g3, g4, g5⟩ := (b2.below hb3 b2.lt).six)
      | (go_at_call 122; refine (wideCut_n a m _).mono ?_; rintro e w4 ⟨rfl, hb4⟩; obtain ⟨k0, k1, k2, k3, k4, k5⟩ := ((b2.below hb3 b2.lt).below hb4 (b2.below hb3 b2.lt).lt).six))
    all_goals
      replace hb := (hb.trans (hb3.mono (Nat.le_of_lt b2.lt))).trans (hb4.mono (Nat.le_of_lt (b2.below hb3 b2.lt).lt))
      replace b4 := ((b4.drew.below hb3 b4.lt).below hb4 (b4.drew.below hb3 b4.lt).lt)
      clear f0 f1 f2 f3 f4 f5 d0 d1 d2 d3 d4 d5 c0 c1 c2 c3 c4 c5 g0 g1 g2 g3 g4 g5 k0 k1 k2 k3 k4 k5 hb3 hb4
      obtain ⟨f0, f1, f2, f3, f4, f5⟩ := b4.six_free
      obtain ⟨d0, d1, d2, d3, d4, d5⟩ := b4.six
      cases z
      · go_wp2_with fail
        have hk := b4.again
        unfold put6 at hk
        rw [hk]
        exact bodyPost_ret (v := .tuple #[W (a / 2 ^ (m + 1)), .int .i64 1, .bool x]) (by simp [results, Tryd.results58, go_sem, d0, d1, d2, d3, d4, d5, limbs]) rfl ⟨jam_ret rfl (by rw [HH.out]; rfl) rfl, hb⟩
      · go_wp2_with fail
        have hk := b4.again
        unfold put6 at hk
        rw [hk]
        exact bodyPost_ret (v := .tuple #[W (a / 2 ^ (m + 1)), .int .i64 0, .bool x]) (by simp [results, Tryd.results58, go_sem, d0, d1, d2, d3, d4, d5, limbs]) rfl ⟨jam_ret rfl (by rw [HH.out]; rfl) rfl, hb⟩
end Go.Proofs.YtjgonofkklpgaaaDoor
