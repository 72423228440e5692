/- Part 3 of what is proved: Unp3, Unp4, Setb, Unp5, Unp6, Unp7, Wadd, Grd. -/
import Derived.Deep.Cut
import Derived.Deep.RegionWith
import Derived.Deep.RegionHeld3
import Derived.Deep.QuietTactic
import Derived.BigQuiet
import Derived.StillTailTactics
import Derived.Outline
import Derived.Test.YtdcgcjmajacgiaaDoorHq0
import Derived.Test.YtdcgcjmajacgiaaDoorHq1
import Derived.Test.YtdcgcjmajacgiaaDoorHq2
set_option linter.unusedSimpArgs false
set_option linter.unusedVariables false
set_option linter.unnecessarySimpa false
namespace Go.Proofs.YtdcgcjmajacgiaaDoor
open Go.RowKit
/-- A fraction stored. -/
def putFr (w : World) (g y : Nat) : World := ((((((w.setCell ⟨g, 8, none⟩ (.int .u64 (limb y 0))).setCell ⟨g, 9, none⟩ (.int .u64 (limb y 1))).setCell ⟨g, 10, none⟩ (.int .u64 (limb y 2))).setCell ⟨g, 11, none⟩ (.int .u64 (limb y 3))).setCell ⟨g, 12, none⟩ (.int .u64 (limb y 4))).setCell ⟨g, 13, none⟩ (.int .u64 (limb y 5)))
theorem Blk.putFr {T : TypeId} {w : World} {g c s : Nat} {x : Int} {f : Nat} (h : Blk T w g (parts c s x f)) (y : Nat) : Blk T (putFr w g y) g (parts c s x y) := by
  unfold Go.Proofs.YtdcgcjmajacgiaaDoor.putFr
  exact Blk.cast ((((((h.set 8 _ rfl).set 9 _ rfl).set 10 _ rfl).set 11 _ rfl).set 12 _ rfl).set 13 _ rfl) (by simp [parts])
theorem Blk.putFr_other {T : TypeId} {w : World} {g k : Nat} {cs : Array Value} (h : Blk T w g cs) (y : Nat) (hne : g ≠ k) : Blk T (Go.Proofs.YtdcgcjmajacgiaaDoor.putFr w k y) g cs := ((((((h.other _ _ hne).other _ _ hne).other _ _ hne).other _ _ hne).other _ _ hne).other _ _ hne)
theorem below_putFr {B : Nat} {w0 w : World} {g : Nat} (hb : Below B w0 w) (hg : B ≤ g) (y : Nat) : Below B w0 (putFr w g y) := ((((((hb.setCell hg _).setCell hg _).setCell hg _).setCell hg _).setCell hg _).setCell hg _)
set_option maxHeartbeats 3200000 in
set_option maxRecDepth 100000 in
theorem kindUnpack_8 (f b e t p : Nat) (neg : Bool) (w : World) (hT : Tab w)
    (cT : ∀ w, Calls Tryd.prog 22 #[.int .u8 f, BV b] w fun e' w' => e' = .returned (.bool true) ∧ Below w.heap.size w w')
    (cP : ∀ w, Calls Tryd.prog 65 #[.int .u8 f] w fun e' w' => e' = .returned (.int .i64 (p : Nat)) ∧ Below w.heap.size w w')
    (cF : ∀ w, Tab w → Calls Tryd.prog 108 #[.int .u8 f, BV b] w fun e' w' => e' = .returned (.tuple #[.bool neg, .int .i64 (e : Nat), W t]) ∧ Below w.heap.size w w')
    (cC : ∀ w, Tab w → Calls Tryd.prog 94 #[.int .u8 f, BV b] w fun e' w' => e' = .returned (.int .u8 8) ∧ Below w.heap.size w w') :
    Calls Tryd.prog 91 #[.int .u8 f, BV b] w fun e' w' => e' = .returned (.tuple #[PV 8 0 0 t, .int .i64 0]) ∧ Below w.heap.size w w' := by
  have HT := Lib.hid hT
  clear hT
  go_enter Tryd.func91, Tryd.ntmps91
  go_wp2_with fail
  refine (cT _).mono ?_
  rintro e' w1 ⟨rfl, hb1⟩
  go_wp2_with fail
  refine (cP _).mono ?_
  rintro e' w2 ⟨rfl, hb2⟩
  have b4 : Blk 72 w2 (w.heap.size + 1) (parts 0 0 0 0) := by
    rw [parts_zero]
    have := (Blk.new (T := 72) (w.alloc (.cells #[.int .u64 (limb b 1), .int .u64 (limb b 0)] 27 (0, 0))) #[.int .u8 0, .int .u64 0, .int .u64 0, .int .u64 0, .int .u64 0, .int .u64 0, .int .u64 0, .int .i64 0, .int .u64 0, .int .u64 0, .int .u64 0, .int .u64 0, .int .u64 0, .int .u64 0]).below hb1 (by simp)
    have := this.below hb2 this.lt
    simpa using this
  have b3 : Blk 27 w2 w.heap.size #[.int .u64 (limb b 1), .int .u64 (limb b 0)] := by
    have h1 := ((Blk.new (T := 27) w #[.int .u64 (limb b 1), .int .u64 (limb b 0)]).alloc (.cells #[.int .u8 0, .int .u64 0, .int .u64 0, .int .u64 0, .int .u64 0, .int .u64 0, .int .u64 0, .int .i64 0, .int .u64 0, .int .u64 0, .int .u64 0, .int .u64 0, .int .u64 0, .int .u64 0] 72 (0, 0))).below hb1 (by simp <;> omega)
    exact h1.below hb2 h1.lt
  have hw2 := ((((Below.refl w.heap.size w).alloc (Nat.le_refl _) (.cells #[.int .u64 (limb b 1), .int .u64 (limb b 0)] 27 (0, 0))).alloc (by simp) (.cells #[.int .u8 0, .int .u64 0, .int .u64 0, .int .u64 0, .int .u64 0, .int .u64 0, .int .u64 0, .int .i64 0, .int .u64 0, .int .u64 0, .int .u64 0, .int .u64 0, .int .u64 0, .int .u64 0] 72 (0, 0))).trans (hb1.mono (by simp <;> omega))).trans (hb2.mono (by have := hb1.size; simp at this; omega))
  clear hb1 hb2
  have g0 := b3.cell 0 rfl
  have g1 := b3.cell 1 rfl
  go_wp2_with fail
  refine (cF _ (HT.out.below hw2)).mono ?_
  rintro e' w3 ⟨rfl, hb3⟩
  replace hw2 := (hw2.trans (hb3.mono (Nat.le_of_lt b3.lt))).alloc (by have := b3.lt; have := hb3.size; omega) (.cells (limbs t) 54 (0, 0))
  replace b4 := (b4.below hb3 b4.lt).alloc (.cells (limbs t) 54 (0, 0))
  replace b3 := (b3.below hb3 b3.lt).alloc (.cells (limbs t) 54 (0, 0))
  have b9 := Blk.new (T := 54) w3 (limbs t)
  clear g0 g1 hb3
  go_upto_region 5 with (fail)
  change Code.wp _ _ _ _ (w3.alloc (.cells (limbs t) 54 (0, 0)))
  generalize w3.alloc (.cells (limbs t) 54 (0, 0)) = v at *
  have g0 := b3.cell 0 rfl
  have g1 := b3.cell 1 rfl
  go_wp2_with fail
  refine (cC _ (HT.out.below hw2)).mono ?_
  rintro e' w4 ⟨rfl, hb4⟩
  replace hw2 := (hw2.trans (hb4.mono (Nat.le_of_lt b3.lt))).alloc (by have := b3.lt; have := hb4.size; omega) (.cells (parts 8 0 0 0) 72 (0, 0))
  have nE : w.heap.size + 1 < w4.heap.size := (b4.below hb4 b4.lt).lt
  replace b4 := (b4.below hb4 b4.lt).alloc (.cells (parts 8 0 0 0) 72 (0, 0))
  replace b9 := (b9.below hb4 b9.lt).alloc (.cells (parts 8 0 0 0) 72 (0, 0))
  have b10 := Blk.new (T := 72) w4 (parts 8 0 0 0)
  clear g0 g1 hb4 b3
  go_upto_region 6 with (fail)
  rw [← show parts 8 0 0 0 = #[.int .u8 8, .int .u64 0, .int .u64 0, .int .u64 0, .int .u64 0, .int .u64 0, .int .u64 0, .int .i64 0, .int .u64 0, .int .u64 0, .int .u64 0, .int .u64 0, .int .u64 0, .int .u64 0] from parts_zero 8]
  generalize w4.alloc (.cells (parts 8 0 0 0) 72 (0, 0)) = v at *
  obtain ⟨d0, d1, d2, d3, d4, d5, d6, d7, d8, d9, d10, d11, d12, d13⟩ := b10.p14
  obtain ⟨c0, c1, c2, c3, c4, c5, c6, c7, c8, c9, c10, c11, c12, c13⟩ := b4.p14
  obtain ⟨n0, n1, n2, n3, n4, n5, n6, n7, n8, n9, n10, n11, n12, n13⟩ := b4.free14
  simp only [limb_zero] at d0 d1 d2 d3 d4 d5 d6 d7 d8 d9 d10 d11 d12 d13 c0 c1 c2 c3 c4 c5 c6 c7 c8 c9 c10 c11 c12 c13
  replace d0 : v.cell? ⟨w4.heap.size, 0, none⟩ = some (.int .u8 8) := d0
  replace c0 : v.cell? ⟨w.heap.size + 1, 0, none⟩ = some (.int .u8 0) := c0
  obtain ⟨m0, m1, m2, m3, m4, m5⟩ := b9.six
  obtain ⟨k0, k1, k2, k3, k4, k5, k6, k7, k8, k9, k10, k11, k12, k13⟩ := b10.free14
  have B10 := Lib.hid b10
  have B4 := Lib.hid b4
  clear b10 b9 b4 cT cP cF cC
  have HW := Lib.hid hw2
  have NE := Lib.hid nE
  clear hw2 nE
  go_upto_region 18 with (fail)
  have b10 := B10.out.putFr t
  have b4 := B4.out.putFr_other t (Nat.ne_of_lt NE.out)
  have hw := below_putFr HW.out (by have := NE.out; omega : w.heap.size ≤ w4.heap.size) t
  clear B10 B4 HW d0 d1 d2 d3 d4 d5 d6 d7 d8 d9 d10 d11 d12 d13 c0 c1 c2 c3 c4 c5 c6 c7 c8 c9 c10 c11 c12 c13 n0 n1 n2 n3 n4 n5 n6 n7 n8 n9 n10 n11 n12 n13 k0 k1 k2 k3 k4 k5 k6 k7 k8 k9 k10 k11 k12 k13 m0 m1 m2 m3 m4 m5
  change Code.wp _ _ _ _ (putFr v w4.heap.size t)
  generalize putFr v w4.heap.size t = u at *
  obtain ⟨d0, d1, d2, d3, d4, d5, d6, d7, d8, d9, d10, d11, d12, d13⟩ := b10.p14
  obtain ⟨c0, c1, c2, c3, c4, c5, c6, c7, c8, c9, c10, c11, c12, c13⟩ := b4.p14
  obtain ⟨n0, n1, n2, n3, n4, n5, n6, n7, n8, n9, n10, n11, n12, n13⟩ := b4.free14
  simp only [limb_zero] at d0 d1 d2 d3 d4 d5 d6 d7 d8 d9 d10 d11 d12 d13 c0 c1 c2 c3 c4 c5 c6 c7 c8 c9 c10 c11 c12 c13
  replace d0 : u.cell? ⟨w4.heap.size, 0, none⟩ = some (.int .u8 8) := d0
  replace c0 : u.cell? ⟨w.heap.size + 1, 0, none⟩ = some (.int .u8 0) := c0
  clear b10 b4
  have HW := Lib.hid hw
  clear hw
  go_wp2_with fail
  have hb := below_put14 HW.out (by omega : w.heap.size ≤ w.heap.size + 1) 8 0 0 t
  unfold put14 at hb
  simp only [limb_zero] at hb
  exact bodyPost_ret (v := .tuple #[PV 8 0 0 t, .int .i64 0]) (by simp [results, Tryd.results91, go_sem, parts, limb_zero, c0, c1, c2, c3, c4, c5, c6, c7, c8, c9, c10, c11, c12, c13]) rfl ⟨rfl, hb⟩
set_option maxHeartbeats 3200000 in
set_option maxRecDepth 100000 in
theorem kindUnpack_9 (f b e t p : Nat) (neg : Bool) (w : World) (hT : Tab w)
    (cT : ∀ w, Calls Tryd.prog 22 #[.int .u8 f, BV b] w fun e' w' => e' = .returned (.bool true) ∧ Below w.heap.size w w')
    (cP : ∀ w, Calls Tryd.prog 65 #[.int .u8 f] w fun e' w' => e' = .returned (.int .i64 (p : Nat)) ∧ Below w.heap.size w w')
    (cF : ∀ w, Tab w → Calls Tryd.prog 108 #[.int .u8 f, BV b] w fun e' w' => e' = .returned (.tuple #[.bool neg, .int .i64 (e : Nat), W t]) ∧ Below w.heap.size w w')
    (cC : ∀ w, Tab w → Calls Tryd.prog 94 #[.int .u8 f, BV b] w fun e' w' => e' = .returned (.int .u8 9) ∧ Below w.heap.size w w') :
    Calls Tryd.prog 91 #[.int .u8 f, BV b] w fun e' w' => e' = .returned (.tuple #[PV 9 0 0 t, .int .i64 0]) ∧ Below w.heap.size w w' := by
  have HT := Lib.hid hT
  clear hT
  go_enter Tryd.func91, Tryd.ntmps91
  go_wp2_with fail
  refine (cT _).mono ?_
  rintro e' w1 ⟨rfl, hb1⟩
  go_wp2_with fail
  refine (cP _).mono ?_
  rintro e' w2 ⟨rfl, hb2⟩
  have b4 : Blk 72 w2 (w.heap.size + 1) (parts 0 0 0 0) := by
    rw [parts_zero]
    have := (Blk.new (T := 72) (w.alloc (.cells #[.int .u64 (limb b 1), .int .u64 (limb b 0)] 27 (0, 0))) #[.int .u8 0, .int .u64 0, .int .u64 0, .int .u64 0, .int .u64 0, .int .u64 0, .int .u64 0, .int .i64 0, .int .u64 0, .int .u64 0, .int .u64 0, .int .u64 0, .int .u64 0, .int .u64 0]).below hb1 (by simp)
    have := this.below hb2 this.lt
    simpa using this
  have b3 : Blk 27 w2 w.heap.size #[.int .u64 (limb b 1), .int .u64 (limb b 0)] := by
    have h1 := ((Blk.new (T := 27) w #[.int .u64 (limb b 1), .int .u64 (limb b 0)]).alloc (.cells #[.int .u8 0, .int .u64 0, .int .u64 0, .int .u64 0, .int .u64 0, .int .u64 0, .int .u64 0, .int .i64 0, .int .u64 0, .int .u64 0, .int .u64 0, .int .u64 0, .int .u64 0, .int .u64 0] 72 (0, 0))).below hb1 (by simp <;> omega)
    exact h1.below hb2 h1.lt
  have hw2 := ((((Below.refl w.heap.size w).alloc (Nat.le_refl _) (.cells #[.int .u64 (limb b 1), .int .u64 (limb b 0)] 27 (0, 0))).alloc (by simp) (.cells #[.int .u8 0, .int .u64 0, .int .u64 0, .int .u64 0, .int .u64 0, .int .u64 0, .int .u64 0, .int .i64 0, .int .u64 0, .int .u64 0, .int .u64 0, .int .u64 0, .int .u64 0, .int .u64 0] 72 (0, 0))).trans (hb1.mono (by simp <;> omega))).trans (hb2.mono (by have := hb1.size; simp at this; omega))
  clear hb1 hb2
  have g0 := b3.cell 0 rfl
  have g1 := b3.cell 1 rfl
  go_wp2_with fail
  refine (cF _ (HT.out.below hw2)).mono ?_
  rintro e' w3 ⟨rfl, hb3⟩
  replace hw2 := (hw2.trans (hb3.mono (Nat.le_of_lt b3.lt))).alloc (by have := b3.lt; have := hb3.size; omega) (.cells (limbs t) 54 (0, 0))
  replace b4 := (b4.below hb3 b4.lt).alloc (.cells (limbs t) 54 (0, 0))
  replace b3 := (b3.below hb3 b3.lt).alloc (.cells (limbs t) 54 (0, 0))
  have b9 := Blk.new (T := 54) w3 (limbs t)
  clear g0 g1 hb3
  go_upto_region 5 with (fail)
  change Code.wp _ _ _ _ (w3.alloc (.cells (limbs t) 54 (0, 0)))
  generalize w3.alloc (.cells (limbs t) 54 (0, 0)) = v at *
  have g0 := b3.cell 0 rfl
  have g1 := b3.cell 1 rfl
  go_wp2_with fail
  refine (cC _ (HT.out.below hw2)).mono ?_
  rintro e' w4 ⟨rfl, hb4⟩
  replace hw2 := (hw2.trans (hb4.mono (Nat.le_of_lt b3.lt))).alloc (by have := b3.lt; have := hb4.size; omega) (.cells (parts 9 0 0 0) 72 (0, 0))
  have nE : w.heap.size + 1 < w4.heap.size := (b4.below hb4 b4.lt).lt
  replace b4 := (b4.below hb4 b4.lt).alloc (.cells (parts 9 0 0 0) 72 (0, 0))
  replace b9 := (b9.below hb4 b9.lt).alloc (.cells (parts 9 0 0 0) 72 (0, 0))
  have b10 := Blk.new (T := 72) w4 (parts 9 0 0 0)
  clear g0 g1 hb4 b3
  go_upto_region 6 with (fail)
  rw [← show parts 9 0 0 0 = #[.int .u8 9, .int .u64 0, .int .u64 0, .int .u64 0, .int .u64 0, .int .u64 0, .int .u64 0, .int .i64 0, .int .u64 0, .int .u64 0, .int .u64 0, .int .u64 0, .int .u64 0, .int .u64 0] from parts_zero 9]
  generalize w4.alloc (.cells (parts 9 0 0 0) 72 (0, 0)) = v at *
  obtain ⟨d0, d1, d2, d3, d4, d5, d6, d7, d8, d9, d10, d11, d12, d13⟩ := b10.p14
  obtain ⟨c0, c1, c2, c3, c4, c5, c6, c7, c8, c9, c10, c11, c12, c13⟩ := b4.p14
  obtain ⟨n0, n1, n2, n3, n4, n5, n6, n7, n8, n9, n10, n11, n12, n13⟩ := b4.free14
  simp only [limb_zero] at d0 d1 d2 d3 d4 d5 d6 d7 d8 d9 d10 d11 d12 d13 c0 c1 c2 c3 c4 c5 c6 c7 c8 c9 c10 c11 c12 c13
  replace d0 : v.cell? ⟨w4.heap.size, 0, none⟩ = some (.int .u8 9) := d0
  replace c0 : v.cell? ⟨w.heap.size + 1, 0, none⟩ = some (.int .u8 0) := c0
  obtain ⟨m0, m1, m2, m3, m4, m5⟩ := b9.six
  obtain ⟨k0, k1, k2, k3, k4, k5, k6, k7, k8, k9, k10, k11, k12, k13⟩ := b10.free14
  have B10 := Lib.hid b10
  have B4 := Lib.hid b4
  clear b10 b9 b4 cT cP cF cC
  have HW := Lib.hid hw2
  have NE := Lib.hid nE
  clear hw2 nE
  go_upto_region 18 with (fail)
  have b10 := B10.out.putFr t
  have b4 := B4.out.putFr_other t (Nat.ne_of_lt NE.out)
  have hw := below_putFr HW.out (by have := NE.out; omega : w.heap.size ≤ w4.heap.size) t
  clear B10 B4 HW d0 d1 d2 d3 d4 d5 d6 d7 d8 d9 d10 d11 d12 d13 c0 c1 c2 c3 c4 c5 c6 c7 c8 c9 c10 c11 c12 c13 n0 n1 n2 n3 n4 n5 n6 n7 n8 n9 n10 n11 n12 n13 k0 k1 k2 k3 k4 k5 k6 k7 k8 k9 k10 k11 k12 k13 m0 m1 m2 m3 m4 m5
  change Code.wp _ _ _ _ (putFr v w4.heap.size t)
  generalize putFr v w4.heap.size t = u at *
  obtain ⟨d0, d1, d2, d3, d4, d5, d6, d7, d8, d9, d10, d11, d12, d13⟩ := b10.p14
  obtain ⟨c0, c1, c2, c3, c4, c5, c6, c7, c8, c9, c10, c11, c12, c13⟩ := b4.p14
  obtain ⟨n0, n1, n2, n3, n4, n5, n6, n7, n8, n9, n10, n11, n12, n13⟩ := b4.free14
  simp only [limb_zero] at d0 d1 d2 d3 d4 d5 d6 d7 d8 d9 d10 d11 d12 d13 c0 c1 c2 c3 c4 c5 c6 c7 c8 c9 c10 c11 c12 c13
  replace d0 : u.cell? ⟨w4.heap.size, 0, none⟩ = some (.int .u8 9) := d0
  replace c0 : u.cell? ⟨w.heap.size + 1, 0, none⟩ = some (.int .u8 0) := c0
  clear b10 b4
  have HW := Lib.hid hw
  clear hw
  go_wp2_with fail
  have hb := below_put14 HW.out (by omega : w.heap.size ≤ w.heap.size + 1) 9 0 0 t
  unfold put14 at hb
  simp only [limb_zero] at hb
  exact bodyPost_ret (v := .tuple #[PV 9 0 0 t, .int .i64 0]) (by simp [results, Tryd.results91, go_sem, parts, limb_zero, c0, c1, c2, c3, c4, c5, c6, c7, c8, c9, c10, c11, c12, c13]) rfl ⟨rfl, hb⟩
end Go.Proofs.YtdcgcjmajacgiaaDoor

namespace Go.Proofs.YtdcgcjmajacgiaaDoor
open Go.RowKit
/-- A significand stored. -/
def putSig (w : World) (g y : Nat) : World := ((((((w.setCell ⟨g, 1, none⟩ (.int .u64 (limb y 0))).setCell ⟨g, 2, none⟩ (.int .u64 (limb y 1))).setCell ⟨g, 3, none⟩ (.int .u64 (limb y 2))).setCell ⟨g, 4, none⟩ (.int .u64 (limb y 3))).setCell ⟨g, 5, none⟩ (.int .u64 (limb y 4))).setCell ⟨g, 6, none⟩ (.int .u64 (limb y 5)))
theorem Blk.putSig {T : TypeId} {w : World} {g c s : Nat} {x : Int} {f : Nat} (h : Blk T w g (parts c s x f)) (y : Nat) : Blk T (putSig w g y) g (parts c y x f) := by
  unfold Go.Proofs.YtdcgcjmajacgiaaDoor.putSig
  exact Blk.cast ((((((h.set 1 _ rfl).set 2 _ rfl).set 3 _ rfl).set 4 _ rfl).set 5 _ rfl).set 6 _ rfl) (by simp [parts])
theorem Blk.putSig_other {T : TypeId} {w : World} {g k : Nat} {cs : Array Value} (h : Blk T w g cs) (y : Nat) (hne : g ≠ k) : Blk T (Go.Proofs.YtdcgcjmajacgiaaDoor.putSig w k y) g cs := ((((((h.other _ _ hne).other _ _ hne).other _ _ hne).other _ _ hne).other _ _ hne).other _ _ hne)
theorem below_putSig {B : Nat} {w0 w : World} {g : Nat} (hb : Below B w0 w) (hg : B ≤ g) (y : Nat) : Below B w0 (putSig w g y) := ((((((hb.setCell hg _).setCell hg _).setCell hg _).setCell hg _).setCell hg _).setCell hg _)
set_option maxHeartbeats 3200000 in
set_option maxRecDepth 100000 in
theorem kindUnpack_2 (f b e t p : Nat) (em : Int) (neg : Bool) (w : World) (hT : Tab w) (he : e ≤ 32767) (hp : p ≤ 113) (hm1 : -16382 ≤ em) (hm2 : em ≤ 0)
    (cM : ∀ w, Calls Tryd.prog 86 #[.int .u8 f] w fun e' w' => e' = .returned (.int .i64 em) ∧ Below w.heap.size w w')
    (cT : ∀ w, Calls Tryd.prog 22 #[.int .u8 f, BV b] w fun e' w' => e' = .returned (.bool true) ∧ Below w.heap.size w w')
    (cP : ∀ w, Calls Tryd.prog 65 #[.int .u8 f] w fun e' w' => e' = .returned (.int .i64 (p : Nat)) ∧ Below w.heap.size w w')
    (cF : ∀ w, Tab w → Calls Tryd.prog 108 #[.int .u8 f, BV b] w fun e' w' => e' = .returned (.tuple #[.bool neg, .int .i64 (e : Nat), W t]) ∧ Below w.heap.size w w')
    (cC : ∀ w, Tab w → Calls Tryd.prog 94 #[.int .u8 f, BV b] w fun e' w' => e' = .returned (.int .u8 2) ∧ Below w.heap.size w w') :
    Calls Tryd.prog 91 #[.int .u8 f, BV b] w fun e' w' => e' = .returned (.tuple #[PV 2 t ((e : Int) + em - (p : Int) + 1) 0, .int .i64 0]) ∧ Below w.heap.size w w' := by
  have HT := Lib.hid hT
  clear hT
  have he' : (e : Int) ≤ 32767 := by omega
  have he0 : (0 : Int) ≤ (e : Int) := by omega
  have hp' : (p : Int) ≤ 113 := by omega
  have hp0 : (0 : Int) ≤ (p : Int) := by omega
  go_enter Tryd.func91, Tryd.ntmps91
  go_wp2_with fail
  refine (cT _).mono ?_
  rintro e' w1 ⟨rfl, hb1⟩
  go_wp2_with fail
  refine (cP _).mono ?_
  rintro e' w2 ⟨rfl, hb2⟩
  have b4 : Blk 72 w2 (w.heap.size + 1) (parts 0 0 0 0) := by
    rw [parts_zero]
    have := (Blk.new (T := 72) (w.alloc (.cells #[.int .u64 (limb b 1), .int .u64 (limb b 0)] 27 (0, 0))) #[.int .u8 0, .int .u64 0, .int .u64 0, .int .u64 0, .int .u64 0, .int .u64 0, .int .u64 0, .int .i64 0, .int .u64 0, .int .u64 0, .int .u64 0, .int .u64 0, .int .u64 0, .int .u64 0]).below hb1 (by simp)
    have := this.below hb2 this.lt
    simpa using this
  have b3 : Blk 27 w2 w.heap.size #[.int .u64 (limb b 1), .int .u64 (limb b 0)] := by
    have h1 := ((Blk.new (T := 27) w #[.int .u64 (limb b 1), .int .u64 (limb b 0)]).alloc (.cells #[.int .u8 0, .int .u64 0, .int .u64 0, .int .u64 0, .int .u64 0, .int .u64 0, .int .u64 0, .int .i64 0, .int .u64 0, .int .u64 0, .int .u64 0, .int .u64 0, .int .u64 0, .int .u64 0] 72 (0, 0))).below hb1 (by simp <;> omega)
    exact h1.below hb2 h1.lt
  have hw2 := ((((Below.refl w.heap.size w).alloc (Nat.le_refl _) (.cells #[.int .u64 (limb b 1), .int .u64 (limb b 0)] 27 (0, 0))).alloc (by simp) (.cells #[.int .u8 0, .int .u64 0, .int .u64 0, .int .u64 0, .int .u64 0, .int .u64 0, .int .u64 0, .int .i64 0, .int .u64 0, .int .u64 0, .int .u64 0, .int .u64 0, .int .u64 0, .int .u64 0] 72 (0, 0))).trans (hb1.mono (by simp <;> omega))).trans (hb2.mono (by have := hb1.size; simp at this; omega))
  clear hb1 hb2
  have g0 := b3.cell 0 rfl
  have g1 := b3.cell 1 rfl
  go_wp2_with fail
  refine (cF _ (HT.out.below hw2)).mono ?_
  rintro e' w3 ⟨rfl, hb3⟩
  replace hw2 := (hw2.trans (hb3.mono (Nat.le_of_lt b3.lt))).alloc (by have := b3.lt; have := hb3.size; omega) (.cells (limbs t) 54 (0, 0))
  replace b4 := (b4.below hb3 b4.lt).alloc (.cells (limbs t) 54 (0, 0))
  replace b3 := (b3.below hb3 b3.lt).alloc (.cells (limbs t) 54 (0, 0))
  have b9 := Blk.new (T := 54) w3 (limbs t)
  clear g0 g1 hb3
  go_upto_region 5 with (fail)
  change Code.wp _ _ _ _ (w3.alloc (.cells (limbs t) 54 (0, 0)))
  generalize w3.alloc (.cells (limbs t) 54 (0, 0)) = v at *
  have g0 := b3.cell 0 rfl
  have g1 := b3.cell 1 rfl
  go_wp2_with fail
  refine (cC _ (HT.out.below hw2)).mono ?_
  rintro e' w4 ⟨rfl, hb4⟩
  replace hw2 := (hw2.trans (hb4.mono (Nat.le_of_lt b3.lt))).alloc (by have := b3.lt; have := hb4.size; omega) (.cells (parts 2 0 0 0) 72 (0, 0))
  have nE : w.heap.size + 1 < w4.heap.size := (b4.below hb4 b4.lt).lt
  replace b4 := (b4.below hb4 b4.lt).alloc (.cells (parts 2 0 0 0) 72 (0, 0))
  replace b9 := (b9.below hb4 b9.lt).alloc (.cells (parts 2 0 0 0) 72 (0, 0))
  have b10 := Blk.new (T := 72) w4 (parts 2 0 0 0)
  clear g0 g1 hb4 b3
  go_upto_region 6 with (fail)
  rw [← show parts 2 0 0 0 = #[.int .u8 2, .int .u64 0, .int .u64 0, .int .u64 0, .int .u64 0, .int .u64 0, .int .u64 0, .int .i64 0, .int .u64 0, .int .u64 0, .int .u64 0, .int .u64 0, .int .u64 0, .int .u64 0] from parts_zero 2]
  generalize w4.alloc (.cells (parts 2 0 0 0) 72 (0, 0)) = v at *
  obtain ⟨d0, d1, d2, d3, d4, d5, d6, d7, d8, d9, d10, d11, d12, d13⟩ := b10.p14
  obtain ⟨c0, c1, c2, c3, c4, c5, c6, c7, c8, c9, c10, c11, c12, c13⟩ := b4.p14
  obtain ⟨n0, n1, n2, n3, n4, n5, n6, n7, n8, n9, n10, n11, n12, n13⟩ := b4.free14
  simp only [limb_zero] at d0 d1 d2 d3 d4 d5 d6 d7 d8 d9 d10 d11 d12 d13 c0 c1 c2 c3 c4 c5 c6 c7 c8 c9 c10 c11 c12 c13
  replace d0 : v.cell? ⟨w4.heap.size, 0, none⟩ = some (.int .u8 2) := d0
  replace c0 : v.cell? ⟨w.heap.size + 1, 0, none⟩ = some (.int .u8 0) := c0
  obtain ⟨m0, m1, m2, m3, m4, m5⟩ := b9.six
  obtain ⟨k0, k1, k2, k3, k4, k5, k6, k7, k8, k9, k10, k11, k12, k13⟩ := b10.free14
  have B10 := Lib.hid b10
  have B4 := Lib.hid b4
  clear b10 b9 b4 cT cP cF cC
  have HW := Lib.hid hw2
  have NE := Lib.hid nE
  clear hw2 nE
  go_upto_region 17 with (fail)
  have b10 := B10.out.putSig t
  have b4 := B4.out.putSig_other t (Nat.ne_of_lt NE.out)
  have hw := below_putSig HW.out (by have := NE.out; omega : w.heap.size ≤ w4.heap.size) t
  clear B10 B4 HW d0 d1 d2 d3 d4 d5 d6 d7 d8 d9 d10 d11 d12 d13 c0 c1 c2 c3 c4 c5 c6 c7 c8 c9 c10 c11 c12 c13 n0 n1 n2 n3 n4 n5 n6 n7 n8 n9 n10 n11 n12 n13 k0 k1 k2 k3 k4 k5 k6 k7 k8 k9 k10 k11 k12 k13 m0 m1 m2 m3 m4 m5
  change Code.wp _ _ _ _ (putSig v w4.heap.size t)
  generalize putSig v w4.heap.size t = u at *
  have hs := b10.lt
  go_upto_region 18 with (go_at_call 86; refine (cM _).mono ?_; rintro e' w5 ⟨rfl, hb5⟩; have q7 := (b10.below hb5 hs).cell 7 rfl; have y7 := (b10.below hb5 hs).free 7)
  have b10' := ((b10.below hb5 hs).set 7 (.int .i64 ((e : Int) + em - (p : Int) + 1)) rfl).cast (show _ = parts 2 t ((e : Int) + em - (p : Int) + 1) 0 by simp [parts])
  have b4' := (b4.below hb5 b4.lt).other ⟨w4.heap.size, 7, none⟩ (.int .i64 ((e : Int) + em - (p : Int) + 1)) (Nat.ne_of_lt NE.out)
  have hw' := (hw.trans (hb5.mono (by have := NE.out; omega))).setCell (p := ⟨w4.heap.size, 7, none⟩) (by have := NE.out; show w.heap.size ≤ w4.heap.size; omega) (.int .i64 ((e : Int) + em - (p : Int) + 1))
  clear q7 y7 b10 b4 hw hb5 hs
  generalize w5.setCell ⟨w4.heap.size, 7, none⟩ (.int .i64 ((e : Int) + em - (p : Int) + 1)) = u2 at *
  generalize hX : ((e : Int) + em - (p : Int) + 1) = X at *
  have HX := Lib.hid hX
  clear hX
  obtain ⟨d0, d1, d2, d3, d4, d5, d6, d7, d8, d9, d10, d11, d12, d13⟩ := b10'.p14
  obtain ⟨c0, c1, c2, c3, c4, c5, c6, c7, c8, c9, c10, c11, c12, c13⟩ := b4'.p14
  obtain ⟨n0, n1, n2, n3, n4, n5, n6, n7, n8, n9, n10, n11, n12, n13⟩ := b4'.free14
  simp only [limb_zero] at d0 d1 d2 d3 d4 d5 d6 d7 d8 d9 d10 d11 d12 d13 c0 c1 c2 c3 c4 c5 c6 c7 c8 c9 c10 c11 c12 c13
  replace d0 : u2.cell? ⟨w4.heap.size, 0, none⟩ = some (.int .u8 2) := d0
  replace c0 : u2.cell? ⟨w.heap.size + 1, 0, none⟩ = some (.int .u8 0) := c0
  clear b10' b4' he hp hm1 hm2 he' he0 hp' hp0 cM
  have HW := Lib.hid hw'
  clear hw'
  go_wp2_with fail
  have hb := below_put14 HW.out (by omega : w.heap.size ≤ w.heap.size + 1) 2 t X 0
  unfold put14 at hb
  simp only [limb_zero] at hb
  exact bodyPost_ret (v := .tuple #[PV 2 t X 0, .int .i64 0]) (by simp [results, Tryd.results91, go_sem, parts, limb_zero, c0, c1, c2, c3, c4, c5, c6, c7, c8, c9, c10, c11, c12, c13]) rfl ⟨by rw [HX.out], hb⟩
set_option maxHeartbeats 3200000 in
set_option maxRecDepth 100000 in
theorem kindUnpack_5 (f b e t p : Nat) (em : Int) (neg : Bool) (w : World) (hT : Tab w) (he : e ≤ 32767) (hp : p ≤ 113) (hm1 : -16382 ≤ em) (hm2 : em ≤ 0)
    (cM : ∀ w, Calls Tryd.prog 86 #[.int .u8 f] w fun e' w' => e' = .returned (.int .i64 em) ∧ Below w.heap.size w w')
    (cT : ∀ w, Calls Tryd.prog 22 #[.int .u8 f, BV b] w fun e' w' => e' = .returned (.bool true) ∧ Below w.heap.size w w')
    (cP : ∀ w, Calls Tryd.prog 65 #[.int .u8 f] w fun e' w' => e' = .returned (.int .i64 (p : Nat)) ∧ Below w.heap.size w w')
    (cF : ∀ w, Tab w → Calls Tryd.prog 108 #[.int .u8 f, BV b] w fun e' w' => e' = .returned (.tuple #[.bool neg, .int .i64 (e : Nat), W t]) ∧ Below w.heap.size w w')
    (cC : ∀ w, Tab w → Calls Tryd.prog 94 #[.int .u8 f, BV b] w fun e' w' => e' = .returned (.int .u8 5) ∧ Below w.heap.size w w') :
    Calls Tryd.prog 91 #[.int .u8 f, BV b] w fun e' w' => e' = .returned (.tuple #[PV 5 t ((e : Int) + em - (p : Int) + 1) 0, .int .i64 0]) ∧ Below w.heap.size w w' := by
  have HT := Lib.hid hT
  clear hT
  have he' : (e : Int) ≤ 32767 := by omega
  have he0 : (0 : Int) ≤ (e : Int) := by omega
  have hp' : (p : Int) ≤ 113 := by omega
  have hp0 : (0 : Int) ≤ (p : Int) := by omega
  go_enter Tryd.func91, Tryd.ntmps91
  go_wp2_with fail
  refine (cT _).mono ?_
  rintro e' w1 ⟨rfl, hb1⟩
  go_wp2_with fail
  refine (cP _).mono ?_
  rintro e' w2 ⟨rfl, hb2⟩
  have b4 : Blk 72 w2 (w.heap.size + 1) (parts 0 0 0 0) := by
    rw [parts_zero]
    have := (Blk.new (T := 72) (w.alloc (.cells #[.int .u64 (limb b 1), .int .u64 (limb b 0)] 27 (0, 0))) #[.int .u8 0, .int .u64 0, .int .u64 0, .int .u64 0, .int .u64 0, .int .u64 0, .int .u64 0, .int .i64 0, .int .u64 0, .int .u64 0, .int .u64 0, .int .u64 0, .int .u64 0, .int .u64 0]).below hb1 (by simp)
    have := this.below hb2 this.lt
    simpa using this
  have b3 : Blk 27 w2 w.heap.size #[.int .u64 (limb b 1), .int .u64 (limb b 0)] := by
    have h1 := ((Blk.new (T := 27) w #[.int .u64 (limb b 1), .int .u64 (limb b 0)]).alloc (.cells #[.int .u8 0, .int .u64 0, .int .u64 0, .int .u64 0, .int .u64 0, .int .u64 0, .int .u64 0, .int .i64 0, .int .u64 0, .int .u64 0, .int .u64 0, .int .u64 0, .int .u64 0, .int .u64 0] 72 (0, 0))).below hb1 (by simp <;> omega)
    exact h1.below hb2 h1.lt
  have hw2 := ((((Below.refl w.heap.size w).alloc (Nat.le_refl _) (.cells #[.int .u64 (limb b 1), .int .u64 (limb b 0)] 27 (0, 0))).alloc (by simp) (.cells #[.int .u8 0, .int .u64 0, .int .u64 0, .int .u64 0, .int .u64 0, .int .u64 0, .int .u64 0, .int .i64 0, .int .u64 0, .int .u64 0, .int .u64 0, .int .u64 0, .int .u64 0, .int .u64 0] 72 (0, 0))).trans (hb1.mono (by simp <;> omega))).trans (hb2.mono (by have := hb1.size; simp at this; omega))
  clear hb1 hb2
  have g0 := b3.cell 0 rfl
  have g1 := b3.cell 1 rfl
  go_wp2_with fail
  refine (cF _ (HT.out.below hw2)).mono ?_
  rintro e' w3 ⟨rfl, hb3⟩
  replace hw2 := (hw2.trans (hb3.mono (Nat.le_of_lt b3.lt))).alloc (by have := b3.lt; have := hb3.size; omega) (.cells (limbs t) 54 (0, 0))
  replace b4 := (b4.below hb3 b4.lt).alloc (.cells (limbs t) 54 (0, 0))
  replace b3 := (b3.below hb3 b3.lt).alloc (.cells (limbs t) 54 (0, 0))
  have b9 := Blk.new (T := 54) w3 (limbs t)
  clear g0 g1 hb3
  go_upto_region 5 with (fail)
  change Code.wp _ _ _ _ (w3.alloc (.cells (limbs t) 54 (0, 0)))
  generalize w3.alloc (.cells (limbs t) 54 (0, 0)) = v at *
  have g0 := b3.cell 0 rfl
  have g1 := b3.cell 1 rfl
  go_wp2_with fail
  refine (cC _ (HT.out.below hw2)).mono ?_
  rintro e' w4 ⟨rfl, hb4⟩
  replace hw2 := (hw2.trans (hb4.mono (Nat.le_of_lt b3.lt))).alloc (by have := b3.lt; have := hb4.size; omega) (.cells (parts 5 0 0 0) 72 (0, 0))
  have nE : w.heap.size + 1 < w4.heap.size := (b4.below hb4 b4.lt).lt
  replace b4 := (b4.below hb4 b4.lt).alloc (.cells (parts 5 0 0 0) 72 (0, 0))
  replace b9 := (b9.below hb4 b9.lt).alloc (.cells (parts 5 0 0 0) 72 (0, 0))
  have b10 := Blk.new (T := 72) w4 (parts 5 0 0 0)
  clear g0 g1 hb4 b3
  go_upto_region 6 with (fail)
  rw [← show parts 5 0 0 0 = #[.int .u8 5, .int .u64 0, .int .u64 0, .int .u64 0, .int .u64 0, .int .u64 0, .int .u64 0, .int .i64 0, .int .u64 0, .int .u64 0, .int .u64 0, .int .u64 0, .int .u64 0, .int .u64 0] from parts_zero 5]
  generalize w4.alloc (.cells (parts 5 0 0 0) 72 (0, 0)) = v at *
  obtain ⟨d0, d1, d2, d3, d4, d5, d6, d7, d8, d9, d10, d11, d12, d13⟩ := b10.p14
  obtain ⟨c0, c1, c2, c3, c4, c5, c6, c7, c8, c9, c10, c11, c12, c13⟩ := b4.p14
  obtain ⟨n0, n1, n2, n3, n4, n5, n6, n7, n8, n9, n10, n11, n12, n13⟩ := b4.free14
  simp only [limb_zero] at d0 d1 d2 d3 d4 d5 d6 d7 d8 d9 d10 d11 d12 d13 c0 c1 c2 c3 c4 c5 c6 c7 c8 c9 c10 c11 c12 c13
  replace d0 : v.cell? ⟨w4.heap.size, 0, none⟩ = some (.int .u8 5) := d0
  replace c0 : v.cell? ⟨w.heap.size + 1, 0, none⟩ = some (.int .u8 0) := c0
  obtain ⟨m0, m1, m2, m3, m4, m5⟩ := b9.six
  obtain ⟨k0, k1, k2, k3, k4, k5, k6, k7, k8, k9, k10, k11, k12, k13⟩ := b10.free14
  have B10 := Lib.hid b10
  have B4 := Lib.hid b4
  clear b10 b9 b4 cT cP cF cC
  have HW := Lib.hid hw2
  have NE := Lib.hid nE
  clear hw2 nE
  go_upto_region 17 with (fail)
  have b10 := B10.out.putSig t
  have b4 := B4.out.putSig_other t (Nat.ne_of_lt NE.out)
  have hw := below_putSig HW.out (by have := NE.out; omega : w.heap.size ≤ w4.heap.size) t
  clear B10 B4 HW d0 d1 d2 d3 d4 d5 d6 d7 d8 d9 d10 d11 d12 d13 c0 c1 c2 c3 c4 c5 c6 c7 c8 c9 c10 c11 c12 c13 n0 n1 n2 n3 n4 n5 n6 n7 n8 n9 n10 n11 n12 n13 k0 k1 k2 k3 k4 k5 k6 k7 k8 k9 k10 k11 k12 k13 m0 m1 m2 m3 m4 m5
  change Code.wp _ _ _ _ (putSig v w4.heap.size t)
  generalize putSig v w4.heap.size t = u at *
  have hs := b10.lt
  go_upto_region 18 with (go_at_call 86; refine (cM _).mono ?_; rintro e' w5 ⟨rfl, hb5⟩; have q7 := (b10.below hb5 hs).cell 7 rfl; have y7 := (b10.below hb5 hs).free 7)
  have b10' := ((b10.below hb5 hs).set 7 (.int .i64 ((e : Int) + em - (p : Int) + 1)) rfl).cast (show _ = parts 5 t ((e : Int) + em - (p : Int) + 1) 0 by simp [parts])
  have b4' := (b4.below hb5 b4.lt).other ⟨w4.heap.size, 7, none⟩ (.int .i64 ((e : Int) + em - (p : Int) + 1)) (Nat.ne_of_lt NE.out)
  have hw' := (hw.trans (hb5.mono (by have := NE.out; omega))).setCell (p := ⟨w4.heap.size, 7, none⟩) (by have := NE.out; show w.heap.size ≤ w4.heap.size; omega) (.int .i64 ((e : Int) + em - (p : Int) + 1))
  clear q7 y7 b10 b4 hw hb5 hs
  generalize w5.setCell ⟨w4.heap.size, 7, none⟩ (.int .i64 ((e : Int) + em - (p : Int) + 1)) = u2 at *
  generalize hX : ((e : Int) + em - (p : Int) + 1) = X at *
  have HX := Lib.hid hX
  clear hX
  obtain ⟨d0, d1, d2, d3, d4, d5, d6, d7, d8, d9, d10, d11, d12, d13⟩ := b10'.p14
  obtain ⟨c0, c1, c2, c3, c4, c5, c6, c7, c8, c9, c10, c11, c12, c13⟩ := b4'.p14
  obtain ⟨n0, n1, n2, n3, n4, n5, n6, n7, n8, n9, n10, n11, n12, n13⟩ := b4'.free14
  simp only [limb_zero] at d0 d1 d2 d3 d4 d5 d6 d7 d8 d9 d10 d11 d12 d13 c0 c1 c2 c3 c4 c5 c6 c7 c8 c9 c10 c11 c12 c13
  replace d0 : u2.cell? ⟨w4.heap.size, 0, none⟩ = some (.int .u8 5) := d0
  replace c0 : u2.cell? ⟨w.heap.size + 1, 0, none⟩ = some (.int .u8 0) := c0
  clear b10' b4' he hp hm1 hm2 he' he0 hp' hp0 cM
  have HW := Lib.hid hw'
  clear hw'
  go_wp2_with fail
  have hb := below_put14 HW.out (by omega : w.heap.size ≤ w.heap.size + 1) 5 t X 0
  unfold put14 at hb
  simp only [limb_zero] at hb
  exact bodyPost_ret (v := .tuple #[PV 5 t X 0, .int .i64 0]) (by simp [results, Tryd.results91, go_sem, parts, limb_zero, c0, c1, c2, c3, c4, c5, c6, c7, c8, c9, c10, c11, c12, c13]) rfl ⟨by rw [HX.out], hb⟩
end Go.Proofs.YtdcgcjmajacgiaaDoor

namespace Go.Proofs.YtdcgcjmajacgiaaDoor
open Go.RowKit
theorem limbN_addpow (t i s j : Nat) (ht : t < 2 ^ (64 * i + s)) (hs : s < 64) :
    limbN (t + 2 ^ (64 * i + s)) j = if j = i then limbN t i + 2 ^ s else limbN t j := by
  have hp : 2 ^ (64 * i + s) = 2 ^ s * 2 ^ (64 * i) := by rw [Nat.pow_add, Nat.mul_comm]
  have h64 : 2 ^ s < 18446744073709551616 := by rw [B64]; exact Nat.pow_lt_pow_right (by decide) hs
  rcases Nat.lt_trichotomy j i with h | h | h
  · rw [if_neg (by omega)]
    unfold limbN
    rw [hp, show 64 * i = 64 * j + (64 + 64 * (i - j - 1)) by omega, Nat.pow_add, Nat.pow_add 2 64, Nat.mul_left_comm, Nat.add_mul_div_left _ _ (pw_pos j), ← B64, Nat.mul_left_comm, Nat.add_mul_mod_self_left]
  · subst h
    rw [if_pos rfl]
    unfold limbN
    have hq : t / 2 ^ (64 * j) < 2 ^ s := by rw [Nat.div_lt_iff_lt_mul (pw_pos j), ← hp]; exact ht
    have hs2 : 2 ^ s + 2 ^ s ≤ 18446744073709551616 := by rw [← Nat.two_mul, Nat.mul_comm, ← Nat.pow_succ, B64]; exact Nat.pow_le_pow_right (by decide) hs
    rw [hp, Nat.mul_comm, Nat.add_mul_div_left _ _ (pw_pos j), Nat.mod_eq_of_lt (by omega : t / 2 ^ (64 * j) < _), Nat.mod_eq_of_lt (by omega)]
  · rw [if_neg (by omega)]
    have big : ∀ y, y < 2 ^ (64 * j) → limbN y j = 0 := fun y hy => by unfold limbN; rw [Nat.div_eq_of_lt hy]
    have hle : 2 ^ (64 * i + s) + 2 ^ (64 * i + s) ≤ 2 ^ (64 * j) := by
      rw [← Nat.two_mul, Nat.mul_comm, ← Nat.pow_succ]; exact Nat.pow_le_pow_right (by decide) (by omega)
    rw [big _ (by omega), big _ (by omega)]
theorem bits_or_top (x s : Nat) (hx : x < 2 ^ s) (hs : s < 64) : Go.bits .or .u64 (x : Int) (IntKind.u64.wrap (2 ^ s)) = ((x + 2 ^ s : Nat) : Int) := by
  have h64 : 2 ^ s < 18446744073709551616 := by rw [B64]; exact Nat.pow_lt_pow_right (by decide) hs
  rw [show (2 : Int) ^ s = ((2 ^ s : Nat) : Int) by simp, show IntKind.u64.wrap ((2 ^ s : Nat) : Int) = ((2 ^ s : Nat) : Int) by rw [IntKind.wrap_u64]; omega, u64_or_nat _ _ (by omega) h64]
  congr 1
  have := Nat.two_pow_add_eq_or_of_lt hx 1
  rw [Nat.mul_one] at this
  rw [Nat.or_comm, ← this, Nat.add_comm]
theorem limbs_top (t i s : Nat) (ht : t < 2 ^ (64 * i + s)) (hs : s < 64) (hi : i < 6) :
    (limbs t).setIfInBounds i (.int .u64 (Go.bits .or .u64 (limb t i) (IntKind.u64.wrap (2 ^ s)))) = limbs (t + 2 ^ (64 * i + s)) := by
  have hx : limbN t i < 2 ^ s := by
    unfold limbN
    refine Nat.lt_of_le_of_lt (Nat.mod_le _ _) ?_
    rw [Nat.div_lt_iff_lt_mul (pw_pos i), ← Nat.pow_add, Nat.add_comm]; exact ht
  have e : Go.bits .or .u64 (limb t i) (IntKind.u64.wrap (2 ^ s)) = ((limbN t i + 2 ^ s : Nat) : Int) := bits_or_top _ s hx hs
  rw [e]
  apply Array.ext_getElem?
  intro j
  by_cases hj : j < 6
  · rw [limbs_get _ j hj, Array.getElem?_setIfInBounds]
    unfold limb
    rw [limbN_addpow t i s j ht hs]
    by_cases h : i = j
    · subst h
      rw [if_pos rfl, if_pos (by rw [limbs_size]; exact hi), if_pos rfl]
    · rw [if_neg h, if_neg (by omega)]
      exact limbs_get t j hj
  · rw [Array.getElem?_eq_none (by rw [Array.size_setIfInBounds, limbs_size]; omega), Array.getElem?_eq_none (by rw [limbs_size]; omega)]
end Go.Proofs.YtdcgcjmajacgiaaDoor

namespace Go.Proofs.YtdcgcjmajacgiaaDoor
open Go.RowKit
set_option maxHeartbeats 3200000 in
set_option maxRecDepth 100000 in
theorem kindUnpack_1_0 (f b e t p : Nat) (em : Int) (neg : Bool) (w : World) (hT : Tab w) (s : Nat) (he : e ≤ 32767) (he1 : 1 ≤ e) (hs64 : s < 64) (htq : t < 2 ^ (64 * 0 + s)) (hqi : ((p : Int) - 1) / 64 = 0) (hqs : ((p : Int) - 1) % 64 = (s : Int)) (hp1 : 11 ≤ p) (hp : p ≤ 113) (hm1 : -16382 ≤ em) (hm2 : em ≤ 0)
    (cM : ∀ w, Calls Tryd.prog 86 #[.int .u8 f] w fun e' w' => e' = .returned (.int .i64 em) ∧ Below w.heap.size w w')
    (cT : ∀ w, Calls Tryd.prog 22 #[.int .u8 f, BV b] w fun e' w' => e' = .returned (.bool true) ∧ Below w.heap.size w w')
    (cP : ∀ w, Calls Tryd.prog 65 #[.int .u8 f] w fun e' w' => e' = .returned (.int .i64 (p : Nat)) ∧ Below w.heap.size w w')
    (cF : ∀ w, Tab w → Calls Tryd.prog 108 #[.int .u8 f, BV b] w fun e' w' => e' = .returned (.tuple #[.bool neg, .int .i64 (e : Nat), W t]) ∧ Below w.heap.size w w')
    (cC : ∀ w, Tab w → Calls Tryd.prog 94 #[.int .u8 f, BV b] w fun e' w' => e' = .returned (.int .u8 1) ∧ Below w.heap.size w w') :
    Calls Tryd.prog 91 #[.int .u8 f, BV b] w fun e' w' => e' = .returned (.tuple #[PV 1 (t + 2 ^ (64 * 0 + s)) ((e : Int) - 1 + em - (p : Int) + 1) 0, .int .i64 0]) ∧ Below w.heap.size w w' := by
  have HT := Lib.hid hT
  clear hT
  have he' : (e : Int) ≤ 32767 := by omega
  have he0 : (0 : Int) ≤ (e : Int) := by omega
  have hp' : (p : Int) ≤ 113 := by omega
  have hp0 : (11 : Int) ≤ (p : Int) := by omega
  have he1' : (1 : Int) ≤ (e : Int) := by omega
  have HS := Lib.hid hs64
  have HTQ := Lib.hid htq
  have s64 : (s : Int) < 64 := by omega
  clear htq hs64
  go_enter Tryd.func91, Tryd.ntmps91
  go_wp2_with fail
  refine (cT _).mono ?_
  rintro e' w1 ⟨rfl, hb1⟩
  go_wp2_with fail
  refine (cP _).mono ?_
  rintro e' w2 ⟨rfl, hb2⟩
  have b4 : Blk 72 w2 (w.heap.size + 1) (parts 0 0 0 0) := by
    rw [parts_zero]
    have := (Blk.new (T := 72) (w.alloc (.cells #[.int .u64 (limb b 1), .int .u64 (limb b 0)] 27 (0, 0))) #[.int .u8 0, .int .u64 0, .int .u64 0, .int .u64 0, .int .u64 0, .int .u64 0, .int .u64 0, .int .i64 0, .int .u64 0, .int .u64 0, .int .u64 0, .int .u64 0, .int .u64 0, .int .u64 0]).below hb1 (by simp)
    have := this.below hb2 this.lt
    simpa using this
  have b3 : Blk 27 w2 w.heap.size #[.int .u64 (limb b 1), .int .u64 (limb b 0)] := by
    have h1 := ((Blk.new (T := 27) w #[.int .u64 (limb b 1), .int .u64 (limb b 0)]).alloc (.cells #[.int .u8 0, .int .u64 0, .int .u64 0, .int .u64 0, .int .u64 0, .int .u64 0, .int .u64 0, .int .i64 0, .int .u64 0, .int .u64 0, .int .u64 0, .int .u64 0, .int .u64 0, .int .u64 0] 72 (0, 0))).below hb1 (by simp <;> omega)
    exact h1.below hb2 h1.lt
  have hw2 := ((((Below.refl w.heap.size w).alloc (Nat.le_refl _) (.cells #[.int .u64 (limb b 1), .int .u64 (limb b 0)] 27 (0, 0))).alloc (by simp) (.cells #[.int .u8 0, .int .u64 0, .int .u64 0, .int .u64 0, .int .u64 0, .int .u64 0, .int .u64 0, .int .i64 0, .int .u64 0, .int .u64 0, .int .u64 0, .int .u64 0, .int .u64 0, .int .u64 0] 72 (0, 0))).trans (hb1.mono (by simp <;> omega))).trans (hb2.mono (by have := hb1.size; simp at this; omega))
  clear hb1 hb2
  have g0 := b3.cell 0 rfl
  have g1 := b3.cell 1 rfl
  go_wp2_with fail
  refine (cF _ (HT.out.below hw2)).mono ?_
  rintro e' w3 ⟨rfl, hb3⟩
  replace hw2 := (hw2.trans (hb3.mono (Nat.le_of_lt b3.lt))).alloc (by have := b3.lt; have := hb3.size; omega) (.cells (limbs t) 54 (0, 0))
  have l4 := (b4.below hb3 b4.lt).lt
  replace b4 := (b4.below hb3 b4.lt).alloc (.cells (limbs t) 54 (0, 0))
  replace b3 := (b3.below hb3 b3.lt).alloc (.cells (limbs t) 54 (0, 0))
  have b9 := Blk.new (T := 54) w3 (limbs t)
  clear g0 g1 hb3
  go_upto_region 5 with (fail)
  change Code.wp _ _ _ _ (w3.alloc (.cells (limbs t) 54 (0, 0)))
  generalize w3.alloc (.cells (limbs t) 54 (0, 0)) = v at *
  have g0 := b3.cell 0 rfl
  have g1 := b3.cell 1 rfl
  go_wp2_with fail
  refine (cC _ (HT.out.below hw2)).mono ?_
  rintro e' w4 ⟨rfl, hb4⟩
  replace hw2 := (hw2.trans (hb4.mono (Nat.le_of_lt b3.lt))).alloc (by have := b3.lt; have := hb4.size; omega) (.cells (parts 1 0 0 0) 72 (0, 0))
  have n39 : w3.heap.size < w4.heap.size := (b9.below hb4 b9.lt).lt
  have n94 : w.heap.size + 1 < w3.heap.size := l4
  have nE : w.heap.size + 1 < w4.heap.size := (b4.below hb4 b4.lt).lt
  replace b4 := (b4.below hb4 b4.lt).alloc (.cells (parts 1 0 0 0) 72 (0, 0))
  replace b9 := (b9.below hb4 b9.lt).alloc (.cells (parts 1 0 0 0) 72 (0, 0))
  have b10 := Blk.new (T := 72) w4 (parts 1 0 0 0)
  clear g0 g1 hb4 b3
  go_upto_region 6 with (fail)
  rw [← show parts 1 0 0 0 = #[.int .u8 1, .int .u64 0, .int .u64 0, .int .u64 0, .int .u64 0, .int .u64 0, .int .u64 0, .int .i64 0, .int .u64 0, .int .u64 0, .int .u64 0, .int .u64 0, .int .u64 0, .int .u64 0] from parts_zero 1]
  generalize w4.alloc (.cells (parts 1 0 0 0) 72 (0, 0)) = v at *
  obtain ⟨d0, d1, d2, d3, d4, d5, d6, d7, d8, d9, d10, d11, d12, d13⟩ := b10.p14
  obtain ⟨c0, c1, c2, c3, c4, c5, c6, c7, c8, c9, c10, c11, c12, c13⟩ := b4.p14
  obtain ⟨n0, n1, n2, n3, n4, n5, n6, n7, n8, n9, n10, n11, n12, n13⟩ := b4.free14
  simp only [limb_zero] at d0 d1 d2 d3 d4 d5 d6 d7 d8 d9 d10 d11 d12 d13 c0 c1 c2 c3 c4 c5 c6 c7 c8 c9 c10 c11 c12 c13
  replace d0 : v.cell? ⟨w4.heap.size, 0, none⟩ = some (.int .u8 1) := d0
  replace c0 : v.cell? ⟨w.heap.size + 1, 0, none⟩ = some (.int .u8 0) := c0
  obtain ⟨m0, m1, m2, m3, m4, m5⟩ := b9.six
  obtain ⟨k0, k1, k2, k3, k4, k5, k6, k7, k8, k9, k10, k11, k12, k13⟩ := b10.free14
  have B10 := Lib.hid b10
  have B4 := Lib.hid b4
  have B9 := Lib.hid b9
  obtain ⟨z0, z1, z2, z3, z4, z5⟩ := b9.six_free
  clear b10 b9 b4 cT cP cF cC
  have HW := Lib.hid hw2
  have NE := Lib.hid nE
  have N39 := Lib.hid n39
  have N94 := Lib.hid n94
  clear hw2 nE n39 n94 l4
  go_upto_region 16 with (fail)
  have bT := B9.out.set 0 _ (limbs_top t 0 s HTQ.out HS.out (by decide))
  have bTen := B10.out.other ⟨w3.heap.size, 0, none⟩ (.int .u64 (Go.bits .or .u64 (limb t 0) (IntKind.u64.wrap (2 ^ s)))) (Nat.ne_of_gt N39.out)
  have bFour := B4.out.other ⟨w3.heap.size, 0, none⟩ (.int .u64 (Go.bits .or .u64 (limb t 0) (IntKind.u64.wrap (2 ^ s)))) (Nat.ne_of_lt N94.out)
  have hwT := HW.out.setCell (p := ⟨w3.heap.size, 0, none⟩) (by have := N94.out; show w.heap.size ≤ w3.heap.size; omega) (.int .u64 (Go.bits .or .u64 (limb t 0) (IntKind.u64.wrap (2 ^ s))))
  clear B10 B4 HW B9 HTQ HS N39 N94 d0 d1 d2 d3 d4 d5 d6 d7 d8 d9 d10 d11 d12 d13 c0 c1 c2 c3 c4 c5 c6 c7 c8 c9 c10 c11 c12 c13 n0 n1 n2 n3 n4 n5 n6 n7 n8 n9 n10 n11 n12 n13 k0 k1 k2 k3 k4 k5 k6 k7 k8 k9 k10 k11 k12 k13 m0 m1 m2 m3 m4 m5 z0 z1 z2 z3 z4 z5
  generalize v.setCell ⟨w3.heap.size, 0, none⟩ (.int .u64 (Go.bits .or .u64 (limb t 0) (IntKind.u64.wrap (2 ^ s)))) = x at *
  generalize hT2 : t + 2 ^ (64 * 0 + s) = T at *
  have HT2 := Lib.hid hT2
  have B10 := Lib.hid bTen
  have B4 := Lib.hid bFour
  have HW := Lib.hid hwT
  obtain ⟨m0, m1, m2, m3, m4, m5⟩ := bT.six
  obtain ⟨d0, d1, d2, d3, d4, d5, d6, d7, d8, d9, d10, d11, d12, d13⟩ := bTen.p14
  obtain ⟨k0, k1, k2, k3, k4, k5, k6, k7, k8, k9, k10, k11, k12, k13⟩ := bTen.free14
  obtain ⟨c0, c1, c2, c3, c4, c5, c6, c7, c8, c9, c10, c11, c12, c13⟩ := bFour.p14
  obtain ⟨n0, n1, n2, n3, n4, n5, n6, n7, n8, n9, n10, n11, n12, n13⟩ := bFour.free14
  simp only [limb_zero] at d0 d1 d2 d3 d4 d5 d6 d7 d8 d9 d10 d11 d12 d13
  clear bT bTen bFour hwT hT2 hqi hqs s64
  go_upto_region 17 with (fail)
  have b10 := B10.out.putSig T
  have b4 := B4.out.putSig_other T (Nat.ne_of_lt NE.out)
  have hw := below_putSig HW.out (by have := NE.out; omega : w.heap.size ≤ w4.heap.size) T
  clear B10 B4 HW d0 d1 d2 d3 d4 d5 d6 d7 d8 d9 d10 d11 d12 d13 c0 c1 c2 c3 c4 c5 c6 c7 c8 c9 c10 c11 c12 c13 n0 n1 n2 n3 n4 n5 n6 n7 n8 n9 n10 n11 n12 n13 k0 k1 k2 k3 k4 k5 k6 k7 k8 k9 k10 k11 k12 k13 m0 m1 m2 m3 m4 m5
  change Code.wp _ _ _ _ (putSig x w4.heap.size T)
  generalize putSig x w4.heap.size T = u at *
  have hs := b10.lt
  go_upto_region 18 with (go_at_call 86; refine (cM _).mono ?_; rintro e' w5 ⟨rfl, hb5⟩; have q7 := (b10.below hb5 hs).cell 7 rfl; have y7 := (b10.below hb5 hs).free 7)
  have b10' := ((b10.below hb5 hs).set 7 (.int .i64 ((e : Int) - 1 + em - (p : Int) + 1)) rfl).cast (show _ = parts 1 T ((e : Int) - 1 + em - (p : Int) + 1) 0 by simp [parts])
  have b4' := (b4.below hb5 b4.lt).other ⟨w4.heap.size, 7, none⟩ (.int .i64 ((e : Int) - 1 + em - (p : Int) + 1)) (Nat.ne_of_lt NE.out)
  have hw' := (hw.trans (hb5.mono (by have := NE.out; omega))).setCell (p := ⟨w4.heap.size, 7, none⟩) (by have := NE.out; show w.heap.size ≤ w4.heap.size; omega) (.int .i64 ((e : Int) - 1 + em - (p : Int) + 1))
  clear q7 y7 b10 b4 hw hb5 hs
  generalize w5.setCell ⟨w4.heap.size, 7, none⟩ (.int .i64 ((e : Int) - 1 + em - (p : Int) + 1)) = u2 at *
  generalize hX : ((e : Int) - 1 + em - (p : Int) + 1) = X at *
  have HX := Lib.hid hX
  clear hX
  obtain ⟨d0, d1, d2, d3, d4, d5, d6, d7, d8, d9, d10, d11, d12, d13⟩ := b10'.p14
  obtain ⟨c0, c1, c2, c3, c4, c5, c6, c7, c8, c9, c10, c11, c12, c13⟩ := b4'.p14
  obtain ⟨n0, n1, n2, n3, n4, n5, n6, n7, n8, n9, n10, n11, n12, n13⟩ := b4'.free14
  simp only [limb_zero] at d0 d1 d2 d3 d4 d5 d6 d7 d8 d9 d10 d11 d12 d13 c0 c1 c2 c3 c4 c5 c6 c7 c8 c9 c10 c11 c12 c13
  replace d0 : u2.cell? ⟨w4.heap.size, 0, none⟩ = some (.int .u8 1) := d0
  replace c0 : u2.cell? ⟨w.heap.size + 1, 0, none⟩ = some (.int .u8 0) := c0
  clear b10' b4' he hp hm1 hm2 he' he0 hp' hp0 cM
  have HW := Lib.hid hw'
  clear hw'
  go_wp2_with fail
  have hb := below_put14 HW.out (by omega : w.heap.size ≤ w.heap.size + 1) 1 T X 0
  unfold put14 at hb
  simp only [limb_zero] at hb
  exact bodyPost_ret (v := .tuple #[PV 1 T X 0, .int .i64 0]) (by simp [results, Tryd.results91, go_sem, parts, limb_zero, c0, c1, c2, c3, c4, c5, c6, c7, c8, c9, c10, c11, c12, c13]) rfl ⟨by rw [HX.out, HT2.out], hb⟩
set_option maxHeartbeats 3200000 in
set_option maxRecDepth 100000 in
theorem kindUnpack_6_0 (f b e t p : Nat) (em : Int) (neg : Bool) (w : World) (hT : Tab w) (s : Nat) (he : e ≤ 32767) (he1 : 1 ≤ e) (hs64 : s < 64) (htq : t < 2 ^ (64 * 0 + s)) (hqi : ((p : Int) - 1) / 64 = 0) (hqs : ((p : Int) - 1) % 64 = (s : Int)) (hp1 : 11 ≤ p) (hp : p ≤ 113) (hm1 : -16382 ≤ em) (hm2 : em ≤ 0)
    (cM : ∀ w, Calls Tryd.prog 86 #[.int .u8 f] w fun e' w' => e' = .returned (.int .i64 em) ∧ Below w.heap.size w w')
    (cT : ∀ w, Calls Tryd.prog 22 #[.int .u8 f, BV b] w fun e' w' => e' = .returned (.bool true) ∧ Below w.heap.size w w')
    (cP : ∀ w, Calls Tryd.prog 65 #[.int .u8 f] w fun e' w' => e' = .returned (.int .i64 (p : Nat)) ∧ Below w.heap.size w w')
    (cF : ∀ w, Tab w → Calls Tryd.prog 108 #[.int .u8 f, BV b] w fun e' w' => e' = .returned (.tuple #[.bool neg, .int .i64 (e : Nat), W t]) ∧ Below w.heap.size w w')
    (cC : ∀ w, Tab w → Calls Tryd.prog 94 #[.int .u8 f, BV b] w fun e' w' => e' = .returned (.int .u8 6) ∧ Below w.heap.size w w') :
    Calls Tryd.prog 91 #[.int .u8 f, BV b] w fun e' w' => e' = .returned (.tuple #[PV 6 (t + 2 ^ (64 * 0 + s)) ((e : Int) - 1 + em - (p : Int) + 1) 0, .int .i64 0]) ∧ Below w.heap.size w w' := by
  have HT := Lib.hid hT
  clear hT
  have he' : (e : Int) ≤ 32767 := by omega
  have he0 : (0 : Int) ≤ (e : Int) := by omega
  have hp' : (p : Int) ≤ 113 := by omega
  have hp0 : (11 : Int) ≤ (p : Int) := by omega
  have he1' : (1 : Int) ≤ (e : Int) := by omega
  have HS := Lib.hid hs64
  have HTQ := Lib.hid htq
  have s64 : (s : Int) < 64 := by omega
  clear htq hs64
  go_enter Tryd.func91, Tryd.ntmps91
  go_wp2_with fail
  refine (cT _).mono ?_
  rintro e' w1 ⟨rfl, hb1⟩
  go_wp2_with fail
  refine (cP _).mono ?_
  rintro e' w2 ⟨rfl, hb2⟩
  have b4 : Blk 72 w2 (w.heap.size + 1) (parts 0 0 0 0) := by
    rw [parts_zero]
    have := (Blk.new (T := 72) (w.alloc (.cells #[.int .u64 (limb b 1), .int .u64 (limb b 0)] 27 (0, 0))) #[.int .u8 0, .int .u64 0, .int .u64 0, .int .u64 0, .int .u64 0, .int .u64 0, .int .u64 0, .int .i64 0, .int .u64 0, .int .u64 0, .int .u64 0, .int .u64 0, .int .u64 0, .int .u64 0]).below hb1 (by simp)
    have := this.below hb2 this.lt
    simpa using this
  have b3 : Blk 27 w2 w.heap.size #[.int .u64 (limb b 1), .int .u64 (limb b 0)] := by
    have h1 := ((Blk.new (T := 27) w #[.int .u64 (limb b 1), .int .u64 (limb b 0)]).alloc (.cells #[.int .u8 0, .int .u64 0, .int .u64 0, .int .u64 0, .int .u64 0, .int .u64 0, .int .u64 0, .int .i64 0, .int .u64 0, .int .u64 0, .int .u64 0, .int .u64 0, .int .u64 0, .int .u64 0] 72 (0, 0))).below hb1 (by simp <;> omega)
    exact h1.below hb2 h1.lt
  have hw2 := ((((Below.refl w.heap.size w).alloc (Nat.le_refl _) (.cells #[.int .u64 (limb b 1), .int .u64 (limb b 0)] 27 (0, 0))).alloc (by simp) (.cells #[.int .u8 0, .int .u64 0, .int .u64 0, .int .u64 0, .int .u64 0, .int .u64 0, .int .u64 0, .int .i64 0, .int .u64 0, .int .u64 0, .int .u64 0, .int .u64 0, .int .u64 0, .int .u64 0] 72 (0, 0))).trans (hb1.mono (by simp <;> omega))).trans (hb2.mono (by have := hb1.size; simp at this; omega))
  clear hb1 hb2
  have g0 := b3.cell 0 rfl
  have g1 := b3.cell 1 rfl
  go_wp2_with fail
  refine (cF _ (HT.out.below hw2)).mono ?_
  rintro e' w3 ⟨rfl, hb3⟩
  replace hw2 := (hw2.trans (hb3.mono (Nat.le_of_lt b3.lt))).alloc (by have := b3.lt; have := hb3.size; omega) (.cells (limbs t) 54 (0, 0))
  have l4 := (b4.below hb3 b4.lt).lt
  replace b4 := (b4.below hb3 b4.lt).alloc (.cells (limbs t) 54 (0, 0))
  replace b3 := (b3.below hb3 b3.lt).alloc (.cells (limbs t) 54 (0, 0))
  have b9 := Blk.new (T := 54) w3 (limbs t)
  clear g0 g1 hb3
  go_upto_region 5 with (fail)
  change Code.wp _ _ _ _ (w3.alloc (.cells (limbs t) 54 (0, 0)))
  generalize w3.alloc (.cells (limbs t) 54 (0, 0)) = v at *
  have g0 := b3.cell 0 rfl
  have g1 := b3.cell 1 rfl
  go_wp2_with fail
  refine (cC _ (HT.out.below hw2)).mono ?_
  rintro e' w4 ⟨rfl, hb4⟩
  replace hw2 := (hw2.trans (hb4.mono (Nat.le_of_lt b3.lt))).alloc (by have := b3.lt; have := hb4.size; omega) (.cells (parts 6 0 0 0) 72 (0, 0))
  have n39 : w3.heap.size < w4.heap.size := (b9.below hb4 b9.lt).lt
  have n94 : w.heap.size + 1 < w3.heap.size := l4
  have nE : w.heap.size + 1 < w4.heap.size := (b4.below hb4 b4.lt).lt
  replace b4 := (b4.below hb4 b4.lt).alloc (.cells (parts 6 0 0 0) 72 (0, 0))
  replace b9 := (b9.below hb4 b9.lt).alloc (.cells (parts 6 0 0 0) 72 (0, 0))
  have b10 := Blk.new (T := 72) w4 (parts 6 0 0 0)
  clear g0 g1 hb4 b3
  go_upto_region 6 with (fail)
  rw [← show parts 6 0 0 0 = #[.int .u8 6, .int .u64 0, .int .u64 0, .int .u64 0, .int .u64 0, .int .u64 0, .int .u64 0, .int .i64 0, .int .u64 0, .int .u64 0, .int .u64 0, .int .u64 0, .int .u64 0, .int .u64 0] from parts_zero 6]
  generalize w4.alloc (.cells (parts 6 0 0 0) 72 (0, 0)) = v at *
  obtain ⟨d0, d1, d2, d3, d4, d5, d6, d7, d8, d9, d10, d11, d12, d13⟩ := b10.p14
  obtain ⟨c0, c1, c2, c3, c4, c5, c6, c7, c8, c9, c10, c11, c12, c13⟩ := b4.p14
  obtain ⟨n0, n1, n2, n3, n4, n5, n6, n7, n8, n9, n10, n11, n12, n13⟩ := b4.free14
  simp only [limb_zero] at d0 d1 d2 d3 d4 d5 d6 d7 d8 d9 d10 d11 d12 d13 c0 c1 c2 c3 c4 c5 c6 c7 c8 c9 c10 c11 c12 c13
  replace d0 : v.cell? ⟨w4.heap.size, 0, none⟩ = some (.int .u8 6) := d0
  replace c0 : v.cell? ⟨w.heap.size + 1, 0, none⟩ = some (.int .u8 0) := c0
  obtain ⟨m0, m1, m2, m3, m4, m5⟩ := b9.six
  obtain ⟨k0, k1, k2, k3, k4, k5, k6, k7, k8, k9, k10, k11, k12, k13⟩ := b10.free14
  have B10 := Lib.hid b10
  have B4 := Lib.hid b4
  have B9 := Lib.hid b9
  obtain ⟨z0, z1, z2, z3, z4, z5⟩ := b9.six_free
  clear b10 b9 b4 cT cP cF cC
  have HW := Lib.hid hw2
  have NE := Lib.hid nE
  have N39 := Lib.hid n39
  have N94 := Lib.hid n94
  clear hw2 nE n39 n94 l4
  go_upto_region 16 with (fail)
  have bT := B9.out.set 0 _ (limbs_top t 0 s HTQ.out HS.out (by decide))
  have bTen := B10.out.other ⟨w3.heap.size, 0, none⟩ (.int .u64 (Go.bits .or .u64 (limb t 0) (IntKind.u64.wrap (2 ^ s)))) (Nat.ne_of_gt N39.out)
  have bFour := B4.out.other ⟨w3.heap.size, 0, none⟩ (.int .u64 (Go.bits .or .u64 (limb t 0) (IntKind.u64.wrap (2 ^ s)))) (Nat.ne_of_lt N94.out)
  have hwT := HW.out.setCell (p := ⟨w3.heap.size, 0, none⟩) (by have := N94.out; show w.heap.size ≤ w3.heap.size; omega) (.int .u64 (Go.bits .or .u64 (limb t 0) (IntKind.u64.wrap (2 ^ s))))
  clear B10 B4 HW B9 HTQ HS N39 N94 d0 d1 d2 d3 d4 d5 d6 d7 d8 d9 d10 d11 d12 d13 c0 c1 c2 c3 c4 c5 c6 c7 c8 c9 c10 c11 c12 c13 n0 n1 n2 n3 n4 n5 n6 n7 n8 n9 n10 n11 n12 n13 k0 k1 k2 k3 k4 k5 k6 k7 k8 k9 k10 k11 k12 k13 m0 m1 m2 m3 m4 m5 z0 z1 z2 z3 z4 z5
  generalize v.setCell ⟨w3.heap.size, 0, none⟩ (.int .u64 (Go.bits .or .u64 (limb t 0) (IntKind.u64.wrap (2 ^ s)))) = x at *
  generalize hT2 : t + 2 ^ (64 * 0 + s) = T at *
  have HT2 := Lib.hid hT2
  have B10 := Lib.hid bTen
  have B4 := Lib.hid bFour
  have HW := Lib.hid hwT
  obtain ⟨m0, m1, m2, m3, m4, m5⟩ := bT.six
  obtain ⟨d0, d1, d2, d3, d4, d5, d6, d7, d8, d9, d10, d11, d12, d13⟩ := bTen.p14
  obtain ⟨k0, k1, k2, k3, k4, k5, k6, k7, k8, k9, k10, k11, k12, k13⟩ := bTen.free14
  obtain ⟨c0, c1, c2, c3, c4, c5, c6, c7, c8, c9, c10, c11, c12, c13⟩ := bFour.p14
  obtain ⟨n0, n1, n2, n3, n4, n5, n6, n7, n8, n9, n10, n11, n12, n13⟩ := bFour.free14
  simp only [limb_zero] at d0 d1 d2 d3 d4 d5 d6 d7 d8 d9 d10 d11 d12 d13
  clear bT bTen bFour hwT hT2 hqi hqs s64
  go_upto_region 17 with (fail)
  have b10 := B10.out.putSig T
  have b4 := B4.out.putSig_other T (Nat.ne_of_lt NE.out)
  have hw := below_putSig HW.out (by have := NE.out; omega : w.heap.size ≤ w4.heap.size) T
  clear B10 B4 HW d0 d1 d2 d3 d4 d5 d6 d7 d8 d9 d10 d11 d12 d13 c0 c1 c2 c3 c4 c5 c6 c7 c8 c9 c10 c11 c12 c13 n0 n1 n2 n3 n4 n5 n6 n7 n8 n9 n10 n11 n12 n13 k0 k1 k2 k3 k4 k5 k6 k7 k8 k9 k10 k11 k12 k13 m0 m1 m2 m3 m4 m5
  change Code.wp _ _ _ _ (putSig x w4.heap.size T)
  generalize putSig x w4.heap.size T = u at *
  have hs := b10.lt
  go_upto_region 18 with (go_at_call 86; refine (cM _).mono ?_; rintro e' w5 ⟨rfl, hb5⟩; have q7 := (b10.below hb5 hs).cell 7 rfl; have y7 := (b10.below hb5 hs).free 7)
  have b10' := ((b10.below hb5 hs).set 7 (.int .i64 ((e : Int) - 1 + em - (p : Int) + 1)) rfl).cast (show _ = parts 6 T ((e : Int) - 1 + em - (p : Int) + 1) 0 by simp [parts])
  have b4' := (b4.below hb5 b4.lt).other ⟨w4.heap.size, 7, none⟩ (.int .i64 ((e : Int) - 1 + em - (p : Int) + 1)) (Nat.ne_of_lt NE.out)
  have hw' := (hw.trans (hb5.mono (by have := NE.out; omega))).setCell (p := ⟨w4.heap.size, 7, none⟩) (by have := NE.out; show w.heap.size ≤ w4.heap.size; omega) (.int .i64 ((e : Int) - 1 + em - (p : Int) + 1))
  clear q7 y7 b10 b4 hw hb5 hs
  generalize w5.setCell ⟨w4.heap.size, 7, none⟩ (.int .i64 ((e : Int) - 1 + em - (p : Int) + 1)) = u2 at *
  generalize hX : ((e : Int) - 1 + em - (p : Int) + 1) = X at *
  have HX := Lib.hid hX
  clear hX
  obtain ⟨d0, d1, d2, d3, d4, d5, d6, d7, d8, d9, d10, d11, d12, d13⟩ := b10'.p14
  obtain ⟨c0, c1, c2, c3, c4, c5, c6, c7, c8, c9, c10, c11, c12, c13⟩ := b4'.p14
  obtain ⟨n0, n1, n2, n3, n4, n5, n6, n7, n8, n9, n10, n11, n12, n13⟩ := b4'.free14
  simp only [limb_zero] at d0 d1 d2 d3 d4 d5 d6 d7 d8 d9 d10 d11 d12 d13 c0 c1 c2 c3 c4 c5 c6 c7 c8 c9 c10 c11 c12 c13
  replace d0 : u2.cell? ⟨w4.heap.size, 0, none⟩ = some (.int .u8 6) := d0
  replace c0 : u2.cell? ⟨w.heap.size + 1, 0, none⟩ = some (.int .u8 0) := c0
  clear b10' b4' he hp hm1 hm2 he' he0 hp' hp0 cM
  have HW := Lib.hid hw'
  clear hw'
  go_wp2_with fail
  have hb := below_put14 HW.out (by omega : w.heap.size ≤ w.heap.size + 1) 6 T X 0
  unfold put14 at hb
  simp only [limb_zero] at hb
  exact bodyPost_ret (v := .tuple #[PV 6 T X 0, .int .i64 0]) (by simp [results, Tryd.results91, go_sem, parts, limb_zero, c0, c1, c2, c3, c4, c5, c6, c7, c8, c9, c10, c11, c12, c13]) rfl ⟨by rw [HX.out, HT2.out], hb⟩
end Go.Proofs.YtdcgcjmajacgiaaDoor

namespace Go.Proofs.YtdcgcjmajacgiaaDoor
open Go.RowKit
set_option maxHeartbeats 3200000 in
set_option maxRecDepth 100000 in
theorem kindUnpack_1_1 (f b e t p : Nat) (em : Int) (neg : Bool) (w : World) (hT : Tab w) (s : Nat) (he : e ≤ 32767) (he1 : 1 ≤ e) (hs64 : s < 64) (htq : t < 2 ^ (64 * 1 + s)) (hqi : ((p : Int) - 1) / 64 = 1) (hqs : ((p : Int) - 1) % 64 = (s : Int)) (hp1 : 11 ≤ p) (hp : p ≤ 113) (hm1 : -16382 ≤ em) (hm2 : em ≤ 0)
    (cM : ∀ w, Calls Tryd.prog 86 #[.int .u8 f] w fun e' w' => e' = .returned (.int .i64 em) ∧ Below w.heap.size w w')
    (cT : ∀ w, Calls Tryd.prog 22 #[.int .u8 f, BV b] w fun e' w' => e' = .returned (.bool true) ∧ Below w.heap.size w w')
    (cP : ∀ w, Calls Tryd.prog 65 #[.int .u8 f] w fun e' w' => e' = .returned (.int .i64 (p : Nat)) ∧ Below w.heap.size w w')
    (cF : ∀ w, Tab w → Calls Tryd.prog 108 #[.int .u8 f, BV b] w fun e' w' => e' = .returned (.tuple #[.bool neg, .int .i64 (e : Nat), W t]) ∧ Below w.heap.size w w')
    (cC : ∀ w, Tab w → Calls Tryd.prog 94 #[.int .u8 f, BV b] w fun e' w' => e' = .returned (.int .u8 1) ∧ Below w.heap.size w w') :
    Calls Tryd.prog 91 #[.int .u8 f, BV b] w fun e' w' => e' = .returned (.tuple #[PV 1 (t + 2 ^ (64 * 1 + s)) ((e : Int) - 1 + em - (p : Int) + 1) 0, .int .i64 0]) ∧ Below w.heap.size w w' := by
  have HT := Lib.hid hT
  clear hT
  have he' : (e : Int) ≤ 32767 := by omega
  have he0 : (0 : Int) ≤ (e : Int) := by omega
  have hp' : (p : Int) ≤ 113 := by omega
  have hp0 : (11 : Int) ≤ (p : Int) := by omega
  have he1' : (1 : Int) ≤ (e : Int) := by omega
  have HS := Lib.hid hs64
  have HTQ := Lib.hid htq
  have s64 : (s : Int) < 64 := by omega
  clear htq hs64
  go_enter Tryd.func91, Tryd.ntmps91
  go_wp2_with fail
  refine (cT _).mono ?_
  rintro e' w1 ⟨rfl, hb1⟩
  go_wp2_with fail
  refine (cP _).mono ?_
  rintro e' w2 ⟨rfl, hb2⟩
  have b4 : Blk 72 w2 (w.heap.size + 1) (parts 0 0 0 0) := by
    rw [parts_zero]
    have := (Blk.new (T := 72) (w.alloc (.cells #[.int .u64 (limb b 1), .int .u64 (limb b 0)] 27 (0, 0))) #[.int .u8 0, .int .u64 0, .int .u64 0, .int .u64 0, .int .u64 0, .int .u64 0, .int .u64 0, .int .i64 0, .int .u64 0, .int .u64 0, .int .u64 0, .int .u64 0, .int .u64 0, .int .u64 0]).below hb1 (by simp)
    have := this.below hb2 this.lt
    simpa using this
  have b3 : Blk 27 w2 w.heap.size #[.int .u64 (limb b 1), .int .u64 (limb b 0)] := by
    have h1 := ((Blk.new (T := 27) w #[.int .u64 (limb b 1), .int .u64 (limb b 0)]).alloc (.cells #[.int .u8 0, .int .u64 0, .int .u64 0, .int .u64 0, .int .u64 0, .int .u64 0, .int .u64 0, .int .i64 0, .int .u64 0, .int .u64 0, .int .u64 0, .int .u64 0, .int .u64 0, .int .u64 0] 72 (0, 0))).below hb1 (by simp <;> omega)
    exact h1.below hb2 h1.lt
  have hw2 := ((((Below.refl w.heap.size w).alloc (Nat.le_refl _) (.cells #[.int .u64 (limb b 1), .int .u64 (limb b 0)] 27 (0, 0))).alloc (by simp) (.cells #[.int .u8 0, .int .u64 0, .int .u64 0, .int .u64 0, .int .u64 0, .int .u64 0, .int .u64 0, .int .i64 0, .int .u64 0, .int .u64 0, .int .u64 0, .int .u64 0, .int .u64 0, .int .u64 0] 72 (0, 0))).trans (hb1.mono (by simp <;> omega))).trans (hb2.mono (by have := hb1.size; simp at this; omega))
  clear hb1 hb2
  have g0 := b3.cell 0 rfl
  have g1 := b3.cell 1 rfl
  go_wp2_with fail
  refine (cF _ (HT.out.below hw2)).mono ?_
  rintro e' w3 ⟨rfl, hb3⟩
  replace hw2 := (hw2.trans (hb3.mono (Nat.le_of_lt b3.lt))).alloc (by have := b3.lt; have := hb3.size; omega) (.cells (limbs t) 54 (0, 0))
  have l4 := (b4.below hb3 b4.lt).lt
  replace b4 := (b4.below hb3 b4.lt).alloc (.cells (limbs t) 54 (0, 0))
  replace b3 := (b3.below hb3 b3.lt).alloc (.cells (limbs t) 54 (0, 0))
  have b9 := Blk.new (T := 54) w3 (limbs t)
  clear g0 g1 hb3
  go_upto_region 5 with (fail)
  change Code.wp _ _ _ _ (w3.alloc (.cells (limbs t) 54 (0, 0)))
  generalize w3.alloc (.cells (limbs t) 54 (0, 0)) = v at *
  have g0 := b3.cell 0 rfl
  have g1 := b3.cell 1 rfl
  go_wp2_with fail
  refine (cC _ (HT.out.below hw2)).mono ?_
  rintro e' w4 ⟨rfl, hb4⟩
  replace hw2 := (hw2.trans (hb4.mono (Nat.le_of_lt b3.lt))).alloc (by have := b3.lt; have := hb4.size; omega) (.cells (parts 1 0 0 0) 72 (0, 0))
  have n39 : w3.heap.size < w4.heap.size := (b9.below hb4 b9.lt).lt
  have n94 : w.heap.size + 1 < w3.heap.size := l4
  have nE : w.heap.size + 1 < w4.heap.size := (b4.below hb4 b4.lt).lt
  replace b4 := (b4.below hb4 b4.lt).alloc (.cells (parts 1 0 0 0) 72 (0, 0))
  replace b9 := (b9.below hb4 b9.lt).alloc (.cells (parts 1 0 0 0) 72 (0, 0))
  have b10 := Blk.new (T := 72) w4 (parts 1 0 0 0)
  clear g0 g1 hb4 b3
  go_upto_region 6 with (fail)
  rw [← show parts 1 0 0 0 = #[.int .u8 1, .int .u64 0, .int .u64 0, .int .u64 0, .int .u64 0, .int .u64 0, .int .u64 0, .int .i64 0, .int .u64 0, .int .u64 0, .int .u64 0, .int .u64 0, .int .u64 0, .int .u64 0] from parts_zero 1]
  generalize w4.alloc (.cells (parts 1 0 0 0) 72 (0, 0)) = v at *
  obtain ⟨d0, d1, d2, d3, d4, d5, d6, d7, d8, d9, d10, d11, d12, d13⟩ := b10.p14
  obtain ⟨c0, c1, c2, c3, c4, c5, c6, c7, c8, c9, c10, c11, c12, c13⟩ := b4.p14
  obtain ⟨n0, n1, n2, n3, n4, n5, n6, n7, n8, n9, n10, n11, n12, n13⟩ := b4.free14
  simp only [limb_zero] at d0 d1 d2 d3 d4 d5 d6 d7 d8 d9 d10 d11 d12 d13 c0 c1 c2 c3 c4 c5 c6 c7 c8 c9 c10 c11 c12 c13
  replace d0 : v.cell? ⟨w4.heap.size, 0, none⟩ = some (.int .u8 1) := d0
  replace c0 : v.cell? ⟨w.heap.size + 1, 0, none⟩ = some (.int .u8 0) := c0
  obtain ⟨m0, m1, m2, m3, m4, m5⟩ := b9.six
  obtain ⟨k0, k1, k2, k3, k4, k5, k6, k7, k8, k9, k10, k11, k12, k13⟩ := b10.free14
  have B10 := Lib.hid b10
  have B4 := Lib.hid b4
  have B9 := Lib.hid b9
  obtain ⟨z0, z1, z2, z3, z4, z5⟩ := b9.six_free
  clear b10 b9 b4 cT cP cF cC
  have HW := Lib.hid hw2
  have NE := Lib.hid nE
  have N39 := Lib.hid n39
  have N94 := Lib.hid n94
  clear hw2 nE n39 n94 l4
  go_upto_region 16 with (fail)
  have bT := B9.out.set 1 _ (limbs_top t 1 s HTQ.out HS.out (by decide))
  have bTen := B10.out.other ⟨w3.heap.size, 1, none⟩ (.int .u64 (Go.bits .or .u64 (limb t 1) (IntKind.u64.wrap (2 ^ s)))) (Nat.ne_of_gt N39.out)
  have bFour := B4.out.other ⟨w3.heap.size, 1, none⟩ (.int .u64 (Go.bits .or .u64 (limb t 1) (IntKind.u64.wrap (2 ^ s)))) (Nat.ne_of_lt N94.out)
  have hwT := HW.out.setCell (p := ⟨w3.heap.size, 1, none⟩) (by have := N94.out; show w.heap.size ≤ w3.heap.size; omega) (.int .u64 (Go.bits .or .u64 (limb t 1) (IntKind.u64.wrap (2 ^ s))))
  clear B10 B4 HW B9 HTQ HS N39 N94 d0 d1 d2 d3 d4 d5 d6 d7 d8 d9 d10 d11 d12 d13 c0 c1 c2 c3 c4 c5 c6 c7 c8 c9 c10 c11 c12 c13 n0 n1 n2 n3 n4 n5 n6 n7 n8 n9 n10 n11 n12 n13 k0 k1 k2 k3 k4 k5 k6 k7 k8 k9 k10 k11 k12 k13 m0 m1 m2 m3 m4 m5 z0 z1 z2 z3 z4 z5
  generalize v.setCell ⟨w3.heap.size, 1, none⟩ (.int .u64 (Go.bits .or .u64 (limb t 1) (IntKind.u64.wrap (2 ^ s)))) = x at *
  generalize hT2 : t + 2 ^ (64 * 1 + s) = T at *
  have HT2 := Lib.hid hT2
  have B10 := Lib.hid bTen
  have B4 := Lib.hid bFour
  have HW := Lib.hid hwT
  obtain ⟨m0, m1, m2, m3, m4, m5⟩ := bT.six
  obtain ⟨d0, d1, d2, d3, d4, d5, d6, d7, d8, d9, d10, d11, d12, d13⟩ := bTen.p14
  obtain ⟨k0, k1, k2, k3, k4, k5, k6, k7, k8, k9, k10, k11, k12, k13⟩ := bTen.free14
  obtain ⟨c0, c1, c2, c3, c4, c5, c6, c7, c8, c9, c10, c11, c12, c13⟩ := bFour.p14
  obtain ⟨n0, n1, n2, n3, n4, n5, n6, n7, n8, n9, n10, n11, n12, n13⟩ := bFour.free14
  simp only [limb_zero] at d0 d1 d2 d3 d4 d5 d6 d7 d8 d9 d10 d11 d12 d13
  clear bT bTen bFour hwT hT2 hqi hqs s64
  go_upto_region 17 with (fail)
  have b10 := B10.out.putSig T
  have b4 := B4.out.putSig_other T (Nat.ne_of_lt NE.out)
  have hw := below_putSig HW.out (by have := NE.out; omega : w.heap.size ≤ w4.heap.size) T
  clear B10 B4 HW d0 d1 d2 d3 d4 d5 d6 d7 d8 d9 d10 d11 d12 d13 c0 c1 c2 c3 c4 c5 c6 c7 c8 c9 c10 c11 c12 c13 n0 n1 n2 n3 n4 n5 n6 n7 n8 n9 n10 n11 n12 n13 k0 k1 k2 k3 k4 k5 k6 k7 k8 k9 k10 k11 k12 k13 m0 m1 m2 m3 m4 m5
  change Code.wp _ _ _ _ (putSig x w4.heap.size T)
  generalize putSig x w4.heap.size T = u at *
  have hs := b10.lt
  go_upto_region 18 with (go_at_call 86; refine (cM _).mono ?_; rintro e' w5 ⟨rfl, hb5⟩; have q7 := (b10.below hb5 hs).cell 7 rfl; have y7 := (b10.below hb5 hs).free 7)
  have b10' := ((b10.below hb5 hs).set 7 (.int .i64 ((e : Int) - 1 + em - (p : Int) + 1)) rfl).cast (show _ = parts 1 T ((e : Int) - 1 + em - (p : Int) + 1) 0 by simp [parts])
  have b4' := (b4.below hb5 b4.lt).other ⟨w4.heap.size, 7, none⟩ (.int .i64 ((e : Int) - 1 + em - (p : Int) + 1)) (Nat.ne_of_lt NE.out)
  have hw' := (hw.trans (hb5.mono (by have := NE.out; omega))).setCell (p := ⟨w4.heap.size, 7, none⟩) (by have := NE.out; show w.heap.size ≤ w4.heap.size; omega) (.int .i64 ((e : Int) - 1 + em - (p : Int) + 1))
  clear q7 y7 b10 b4 hw hb5 hs
  generalize w5.setCell ⟨w4.heap.size, 7, none⟩ (.int .i64 ((e : Int) - 1 + em - (p : Int) + 1)) = u2 at *
  generalize hX : ((e : Int) - 1 + em - (p : Int) + 1) = X at *
  have HX := Lib.hid hX
  clear hX
  obtain ⟨d0, d1, d2, d3, d4, d5, d6, d7, d8, d9, d10, d11, d12, d13⟩ := b10'.p14
  obtain ⟨c0, c1, c2, c3, c4, c5, c6, c7, c8, c9, c10, c11, c12, c13⟩ := b4'.p14
  obtain ⟨n0, n1, n2, n3, n4, n5, n6, n7, n8, n9, n10, n11, n12, n13⟩ := b4'.free14
  simp only [limb_zero] at d0 d1 d2 d3 d4 d5 d6 d7 d8 d9 d10 d11 d12 d13 c0 c1 c2 c3 c4 c5 c6 c7 c8 c9 c10 c11 c12 c13
  replace d0 : u2.cell? ⟨w4.heap.size, 0, none⟩ = some (.int .u8 1) := d0
  replace c0 : u2.cell? ⟨w.heap.size + 1, 0, none⟩ = some (.int .u8 0) := c0
  clear b10' b4' he hp hm1 hm2 he' he0 hp' hp0 cM
  have HW := Lib.hid hw'
  clear hw'
  go_wp2_with fail
  have hb := below_put14 HW.out (by omega : w.heap.size ≤ w.heap.size + 1) 1 T X 0
  unfold put14 at hb
  simp only [limb_zero] at hb
  exact bodyPost_ret (v := .tuple #[PV 1 T X 0, .int .i64 0]) (by simp [results, Tryd.results91, go_sem, parts, limb_zero, c0, c1, c2, c3, c4, c5, c6, c7, c8, c9, c10, c11, c12, c13]) rfl ⟨by rw [HX.out, HT2.out], hb⟩
set_option maxHeartbeats 3200000 in
set_option maxRecDepth 100000 in
theorem kindUnpack_6_1 (f b e t p : Nat) (em : Int) (neg : Bool) (w : World) (hT : Tab w) (s : Nat) (he : e ≤ 32767) (he1 : 1 ≤ e) (hs64 : s < 64) (htq : t < 2 ^ (64 * 1 + s)) (hqi : ((p : Int) - 1) / 64 = 1) (hqs : ((p : Int) - 1) % 64 = (s : Int)) (hp1 : 11 ≤ p) (hp : p ≤ 113) (hm1 : -16382 ≤ em) (hm2 : em ≤ 0)
    (cM : ∀ w, Calls Tryd.prog 86 #[.int .u8 f] w fun e' w' => e' = .returned (.int .i64 em) ∧ Below w.heap.size w w')
    (cT : ∀ w, Calls Tryd.prog 22 #[.int .u8 f, BV b] w fun e' w' => e' = .returned (.bool true) ∧ Below w.heap.size w w')
    (cP : ∀ w, Calls Tryd.prog 65 #[.int .u8 f] w fun e' w' => e' = .returned (.int .i64 (p : Nat)) ∧ Below w.heap.size w w')
    (cF : ∀ w, Tab w → Calls Tryd.prog 108 #[.int .u8 f, BV b] w fun e' w' => e' = .returned (.tuple #[.bool neg, .int .i64 (e : Nat), W t]) ∧ Below w.heap.size w w')
    (cC : ∀ w, Tab w → Calls Tryd.prog 94 #[.int .u8 f, BV b] w fun e' w' => e' = .returned (.int .u8 6) ∧ Below w.heap.size w w') :
    Calls Tryd.prog 91 #[.int .u8 f, BV b] w fun e' w' => e' = .returned (.tuple #[PV 6 (t + 2 ^ (64 * 1 + s)) ((e : Int) - 1 + em - (p : Int) + 1) 0, .int .i64 0]) ∧ Below w.heap.size w w' := by
  have HT := Lib.hid hT
  clear hT
  have he' : (e : Int) ≤ 32767 := by omega
  have he0 : (0 : Int) ≤ (e : Int) := by omega
  have hp' : (p : Int) ≤ 113 := by omega
  have hp0 : (11 : Int) ≤ (p : Int) := by omega
  have he1' : (1 : Int) ≤ (e : Int) := by omega
  have HS := Lib.hid hs64
  have HTQ := Lib.hid htq
  have s64 : (s : Int) < 64 := by omega
  clear htq hs64
  go_enter Tryd.func91, Tryd.ntmps91
  go_wp2_with fail
  refine (cT _).mono ?_
  rintro e' w1 ⟨rfl, hb1⟩
  go_wp2_with fail
  refine (cP _).mono ?_
  rintro e' w2 ⟨rfl, hb2⟩
  have b4 : Blk 72 w2 (w.heap.size + 1) (parts 0 0 0 0) := by
    rw [parts_zero]
    have := (Blk.new (T := 72) (w.alloc (.cells #[.int .u64 (limb b 1), .int .u64 (limb b 0)] 27 (0, 0))) #[.int .u8 0, .int .u64 0, .int .u64 0, .int .u64 0, .int .u64 0, .int .u64 0, .int .u64 0, .int .i64 0, .int .u64 0, .int .u64 0, .int .u64 0, .int .u64 0, .int .u64 0, .int .u64 0]).below hb1 (by simp)
    have := this.below hb2 this.lt
    simpa using this
  have b3 : Blk 27 w2 w.heap.size #[.int .u64 (limb b 1), .int .u64 (limb b 0)] := by
    have h1 := ((Blk.new (T := 27) w #[.int .u64 (limb b 1), .int .u64 (limb b 0)]).alloc (.cells #[.int .u8 0, .int .u64 0, .int .u64 0, .int .u64 0, .int .u64 0, .int .u64 0, .int .u64 0, .int .i64 0, .int .u64 0, .int .u64 0, .int .u64 0, .int .u64 0, .int .u64 0, .int .u64 0] 72 (0, 0))).below hb1 (by simp <;> omega)
    exact h1.below hb2 h1.lt
  have hw2 := ((((Below.refl w.heap.size w).alloc (Nat.le_refl _) (.cells #[.int .u64 (limb b 1), .int .u64 (limb b 0)] 27 (0, 0))).alloc (by simp) (.cells #[.int .u8 0, .int .u64 0, .int .u64 0, .int .u64 0, .int .u64 0, .int .u64 0, .int .u64 0, .int .i64 0, .int .u64 0, .int .u64 0, .int .u64 0, .int .u64 0, .int .u64 0, .int .u64 0] 72 (0, 0))).trans (hb1.mono (by simp <;> omega))).trans (hb2.mono (by have := hb1.size; simp at this; omega))
  clear hb1 hb2
  have g0 := b3.cell 0 rfl
  have g1 := b3.cell 1 rfl
  go_wp2_with fail
  refine (cF _ (HT.out.below hw2)).mono ?_
  rintro e' w3 ⟨rfl, hb3⟩
  replace hw2 := (hw2.trans (hb3.mono (Nat.le_of_lt b3.lt))).alloc (by have := b3.lt; have := hb3.size; omega) (.cells (limbs t) 54 (0, 0))
  have l4 := (b4.below hb3 b4.lt).lt
  replace b4 := (b4.below hb3 b4.lt).alloc (.cells (limbs t) 54 (0, 0))
  replace b3 := (b3.below hb3 b3.lt).alloc (.cells (limbs t) 54 (0, 0))
  have b9 := Blk.new (T := 54) w3 (limbs t)
  clear g0 g1 hb3
  go_upto_region 5 with (fail)
  change Code.wp _ _ _ _ (w3.alloc (.cells (limbs t) 54 (0, 0)))
  generalize w3.alloc (.cells (limbs t) 54 (0, 0)) = v at *
  have g0 := b3.cell 0 rfl
  have g1 := b3.cell 1 rfl
  go_wp2_with fail
  refine (cC _ (HT.out.below hw2)).mono ?_
  rintro e' w4 ⟨rfl, hb4⟩
  replace hw2 := (hw2.trans (hb4.mono (Nat.le_of_lt b3.lt))).alloc (by have := b3.lt; have := hb4.size; omega) (.cells (parts 6 0 0 0) 72 (0, 0))
  have n39 : w3.heap.size < w4.heap.size := (b9.below hb4 b9.lt).lt
  have n94 : w.heap.size + 1 < w3.heap.size := l4
  have nE : w.heap.size + 1 < w4.heap.size := (b4.below hb4 b4.lt).lt
  replace b4 := (b4.below hb4 b4.lt).alloc (.cells (parts 6 0 0 0) 72 (0, 0))
  replace b9 := (b9.below hb4 b9.lt).alloc (.cells (parts 6 0 0 0) 72 (0, 0))
  have b10 := Blk.new (T := 72) w4 (parts 6 0 0 0)
  clear g0 g1 hb4 b3
  go_upto_region 6 with (fail)
  rw [← show parts 6 0 0 0 = #[.int .u8 6, .int .u64 0, .int .u64 0, .int .u64 0, .int .u64 0, .int .u64 0, .int .u64 0, .int .i64 0, .int .u64 0, .int .u64 0, .int .u64 0, .int .u64 0, .int .u64 0, .int .u64 0] from parts_zero 6]
  generalize w4.alloc (.cells (parts 6 0 0 0) 72 (0, 0)) = v at *
  obtain ⟨d0, d1, d2, d3, d4, d5, d6, d7, d8, d9, d10, d11, d12, d13⟩ := b10.p14
  obtain ⟨c0, c1, c2, c3, c4, c5, c6, c7, c8, c9, c10, c11, c12, c13⟩ := b4.p14
  obtain ⟨n0, n1, n2, n3, n4, n5, n6, n7, n8, n9, n10, n11, n12, n13⟩ := b4.free14
  simp only [limb_zero] at d0 d1 d2 d3 d4 d5 d6 d7 d8 d9 d10 d11 d12 d13 c0 c1 c2 c3 c4 c5 c6 c7 c8 c9 c10 c11 c12 c13
  replace d0 : v.cell? ⟨w4.heap.size, 0, none⟩ = some (.int .u8 6) := d0
  replace c0 : v.cell? ⟨w.heap.size + 1, 0, none⟩ = some (.int .u8 0) := c0
  obtain ⟨m0, m1, m2, m3, m4, m5⟩ := b9.six
  obtain ⟨k0, k1, k2, k3, k4, k5, k6, k7, k8, k9, k10, k11, k12, k13⟩ := b10.free14
  have B10 := Lib.hid b10
  have B4 := Lib.hid b4
  have B9 := Lib.hid b9
  obtain ⟨z0, z1, z2, z3, z4, z5⟩ := b9.six_free
  clear b10 b9 b4 cT cP cF cC
  have HW := Lib.hid hw2
  have NE := Lib.hid nE
  have N39 := Lib.hid n39
  have N94 := Lib.hid n94
  clear hw2 nE n39 n94 l4
  go_upto_region 16 with (fail)
  have bT := B9.out.set 1 _ (limbs_top t 1 s HTQ.out HS.out (by decide))
  have bTen := B10.out.other ⟨w3.heap.size, 1, none⟩ (.int .u64 (Go.bits .or .u64 (limb t 1) (IntKind.u64.wrap (2 ^ s)))) (Nat.ne_of_gt N39.out)
  have bFour := B4.out.other ⟨w3.heap.size, 1, none⟩ (.int .u64 (Go.bits .or .u64 (limb t 1) (IntKind.u64.wrap (2 ^ s)))) (Nat.ne_of_lt N94.out)
  have hwT := HW.out.setCell (p := ⟨w3.heap.size, 1, none⟩) (by have := N94.out; show w.heap.size ≤ w3.heap.size; omega) (.int .u64 (Go.bits .or .u64 (limb t 1) (IntKind.u64.wrap (2 ^ s))))
  clear B10 B4 HW B9 HTQ HS N39 N94 d0 d1 d2 d3 d4 d5 d6 d7 d8 d9 d10 d11 d12 d13 c0 c1 c2 c3 c4 c5 c6 c7 c8 c9 c10 c11 c12 c13 n0 n1 n2 n3 n4 n5 n6 n7 n8 n9 n10 n11 n12 n13 k0 k1 k2 k3 k4 k5 k6 k7 k8 k9 k10 k11 k12 k13 m0 m1 m2 m3 m4 m5 z0 z1 z2 z3 z4 z5
  generalize v.setCell ⟨w3.heap.size, 1, none⟩ (.int .u64 (Go.bits .or .u64 (limb t 1) (IntKind.u64.wrap (2 ^ s)))) = x at *
  generalize hT2 : t + 2 ^ (64 * 1 + s) = T at *
  have HT2 := Lib.hid hT2
  have B10 := Lib.hid bTen
  have B4 := Lib.hid bFour
  have HW := Lib.hid hwT
  obtain ⟨m0, m1, m2, m3, m4, m5⟩ := bT.six
  obtain ⟨d0, d1, d2, d3, d4, d5, d6, d7, d8, d9, d10, d11, d12, d13⟩ := bTen.p14
  obtain ⟨k0, k1, k2, k3, k4, k5, k6, k7, k8, k9, k10, k11, k12, k13⟩ := bTen.free14
  obtain ⟨c0, c1, c2, c3, c4, c5, c6, c7, c8, c9, c10, c11, c12, c13⟩ := bFour.p14
  obtain ⟨n0, n1, n2, n3, n4, n5, n6, n7, n8, n9, n10, n11, n12, n13⟩ := bFour.free14
  simp only [limb_zero] at d0 d1 d2 d3 d4 d5 d6 d7 d8 d9 d10 d11 d12 d13
  clear bT bTen bFour hwT hT2 hqi hqs s64
  go_upto_region 17 with (fail)
  have b10 := B10.out.putSig T
  have b4 := B4.out.putSig_other T (Nat.ne_of_lt NE.out)
  have hw := below_putSig HW.out (by have := NE.out; omega : w.heap.size ≤ w4.heap.size) T
  clear B10 B4 HW d0 d1 d2 d3 d4 d5 d6 d7 d8 d9 d10 d11 d12 d13 c0 c1 c2 c3 c4 c5 c6 c7 c8 c9 c10 c11 c12 c13 n0 n1 n2 n3 n4 n5 n6 n7 n8 n9 n10 n11 n12 n13 k0 k1 k2 k3 k4 k5 k6 k7 k8 k9 k10 k11 k12 k13 m0 m1 m2 m3 m4 m5
  change Code.wp _ _ _ _ (putSig x w4.heap.size T)
  generalize putSig x w4.heap.size T = u at *
  have hs := b10.lt
  go_upto_region 18 with (go_at_call 86; refine (cM _).mono ?_; rintro e' w5 ⟨rfl, hb5⟩; have q7 := (b10.below hb5 hs).cell 7 rfl; have y7 := (b10.below hb5 hs).free 7)
  have b10' := ((b10.below hb5 hs).set 7 (.int .i64 ((e : Int) - 1 + em - (p : Int) + 1)) rfl).cast (show _ = parts 6 T ((e : Int) - 1 + em - (p : Int) + 1) 0 by simp [parts])
  have b4' := (b4.below hb5 b4.lt).other ⟨w4.heap.size, 7, none⟩ (.int .i64 ((e : Int) - 1 + em - (p : Int) + 1)) (Nat.ne_of_lt NE.out)
  have hw' := (hw.trans (hb5.mono (by have := NE.out; omega))).setCell (p := ⟨w4.heap.size, 7, none⟩) (by have := NE.out; show w.heap.size ≤ w4.heap.size; omega) (.int .i64 ((e : Int) - 1 + em - (p : Int) + 1))
  clear q7 y7 b10 b4 hw hb5 hs
  generalize w5.setCell ⟨w4.heap.size, 7, none⟩ (.int .i64 ((e : Int) - 1 + em - (p : Int) + 1)) = u2 at *
  generalize hX : ((e : Int) - 1 + em - (p : Int) + 1) = X at *
  have HX := Lib.hid hX
  clear hX
  obtain ⟨d0, d1, d2, d3, d4, d5, d6, d7, d8, d9, d10, d11, d12, d13⟩ := b10'.p14
  obtain ⟨c0, c1, c2, c3, c4, c5, c6, c7, c8, c9, c10, c11, c12, c13⟩ := b4'.p14
  obtain ⟨n0, n1, n2, n3, n4, n5, n6, n7, n8, n9, n10, n11, n12, n13⟩ := b4'.free14
  simp only [limb_zero] at d0 d1 d2 d3 d4 d5 d6 d7 d8 d9 d10 d11 d12 d13 c0 c1 c2 c3 c4 c5 c6 c7 c8 c9 c10 c11 c12 c13
  replace d0 : u2.cell? ⟨w4.heap.size, 0, none⟩ = some (.int .u8 6) := d0
  replace c0 : u2.cell? ⟨w.heap.size + 1, 0, none⟩ = some (.int .u8 0) := c0
  clear b10' b4' he hp hm1 hm2 he' he0 hp' hp0 cM
  have HW := Lib.hid hw'
  clear hw'
  go_wp2_with fail
  have hb := below_put14 HW.out (by omega : w.heap.size ≤ w.heap.size + 1) 6 T X 0
  unfold put14 at hb
  simp only [limb_zero] at hb
  exact bodyPost_ret (v := .tuple #[PV 6 T X 0, .int .i64 0]) (by simp [results, Tryd.results91, go_sem, parts, limb_zero, c0, c1, c2, c3, c4, c5, c6, c7, c8, c9, c10, c11, c12, c13]) rfl ⟨by rw [HX.out, HT2.out], hb⟩
end Go.Proofs.YtdcgcjmajacgiaaDoor

namespace Go.Proofs.YtdcgcjmajacgiaaDoor
open Go.RowKit
theorem ret_parts {c c' s s' f f' : Nat} {x x' : Int} {e : Ending} {P : Prop} (h1 : c = c') (h2 : s = s') (h3 : x = x') (h4 : f = f') (k : e = .returned (.tuple #[PV c s x f, .int .i64 0]) ∧ P) : e = .returned (.tuple #[PV c' s' x' f', .int .i64 0]) ∧ P := by
  subst h1 h2 h3 h4; exact k
theorem leadBit (f : Nat) (h : f < 4) : (((pF f : Int) - 1) / 64 = 0 ∧ ∃ s : Nat, s < 64 ∧ ((pF f : Int) - 1) % 64 = s ∧ pF f - 1 = 64 * 0 + s) ∨ (((pF f : Int) - 1) / 64 = 1 ∧ ∃ s : Nat, s < 64 ∧ ((pF f : Int) - 1) % 64 = s ∧ pF f - 1 = 64 * 1 + s) := by
  have : f = 0 ∨ f = 1 ∨ f = 2 ∨ f = 3 := by omega
  rcases this with rfl | rfl | rfl | rfl
  · left; exact ⟨by decide, 23, by decide, by decide, rfl⟩
  · left; exact ⟨by decide, 52, by decide, by decide, rfl⟩
  · left; exact ⟨by decide, 10, by decide, by decide, rfl⟩
  · right; exact ⟨by decide, 48, by decide, by decide, rfl⟩
theorem kindUnpack_yes (f b : Nat) (w : World) (h : fitsB f b = true) (hT : Tab w) :
    Calls Tryd.prog 91 #[.int .u8 f, BV b] w fun e w' => e = .returned (.tuple #[PV (clsN f b) (sigN f b) (xpN f b) (frN f b), .int .i64 0]) ∧ Below w.heap.size w w' := by
  obtain ⟨hf, hb0⟩ := (fits_iff f b).1 h
  obtain ⟨h1, h2, h3, h4, h5, h6, h7, h8⟩ := formK f hf
  have hb : b < 2 ^ (64 * 2) := Nat.lt_of_lt_of_le hb0 (Nat.pow_le_pow_right (by decide) (by have := (formB f hf).2.2.2.1; omega))
  have cT := fun w => shapeFits_any f b w hb
  rw [h] at cT
  have cP := fun w => shapePrecision_any f w (by omega)
  have cM := fun w => shapeEmin_any f w (by omega)
  have cF := fun w hT => kindFields_any f b w hf hb hT
  have cC := fun w hT => kindclass_any f b w hf hb hT
  have hx := expN_lt f b hf
  have ht := Nat.mod_lt b (two_pos (pF f - 1))
  rcases cls_cases f b with ⟨e1, e2, e3⟩ | ⟨e1, e2, e3⟩ | ⟨e1, e2, e3⟩ | ⟨e1, e2, e3⟩ | ⟨e1, e2, e3⟩
  · cases hn : negN f b
    · rw [hn] at e3
      simp only [e3, cond] at cC
      refine (kindUnpack_7 f b _ _ _ _ w hT cT cP cF cC).mono fun e w' k => ret_parts ?_ ?_ ?_ ?_ k
      · rw [e3]; rfl
      · unfold sigN; rw [e3]; rfl
      · unfold xpN; rw [e3]; rfl
      · unfold frN; rw [e3]; rfl
    · rw [hn] at e3
      simp only [e3, cond] at cC
      refine (kindUnpack_0 f b _ _ _ _ w hT cT cP cF cC).mono fun e w' k => ret_parts ?_ ?_ ?_ ?_ k
      · rw [e3]; rfl
      · unfold sigN; rw [e3]; rfl
      · unfold xpN; rw [e3]; rfl
      · unfold frN; rw [e3]; rfl
  · cases hn : (b % 2 ^ (pF f - 1)).testBit (pF f - 2)
    · rw [hn] at e3
      simp only [e3, cond] at cC
      refine (kindUnpack_8 f b _ _ _ _ w hT cT cP cF cC).mono fun e w' k => ret_parts ?_ ?_ ?_ ?_ k
      · rw [e3]; rfl
      · unfold sigN; rw [e3]; rfl
      · unfold xpN; rw [e3]; rfl
      · unfold frN; rw [e3]; rfl
    · rw [hn] at e3
      simp only [e3, cond] at cC
      refine (kindUnpack_9 f b _ _ _ _ w hT cT cP cF cC).mono fun e w' k => ret_parts ?_ ?_ ?_ ?_ k
      · rw [e3]; rfl
      · unfold sigN; rw [e3]; rfl
      · unfold xpN; rw [e3]; rfl
      · unfold frN; rw [e3]; rfl
  · cases hn : negN f b
    · rw [hn] at e3
      simp only [e3, cond] at cC
      refine (kindUnpack_4 f b _ _ _ _ w hT cT cP cF cC).mono fun e w' k => ret_parts ?_ ?_ ?_ ?_ k
      · rw [e3]; rfl
      · unfold sigN; rw [e3]; rfl
      · unfold xpN; rw [e3]; rfl
      · unfold frN; rw [e3]; rfl
    · rw [hn] at e3
      simp only [e3, cond] at cC
      refine (kindUnpack_3 f b _ _ _ _ w hT cT cP cF cC).mono fun e w' k => ret_parts ?_ ?_ ?_ ?_ k
      · rw [e3]; rfl
      · unfold sigN; rw [e3]; rfl
      · unfold xpN; rw [e3]; rfl
      · unfold frN; rw [e3]; rfl
  · cases hn : negN f b
    · rw [hn] at e3
      simp only [e3, cond] at cC
      refine (kindUnpack_5 f b _ _ _ _ _ w hT (by omega) h8 (by omega) (by omega) cM cT cP cF cC).mono fun e w' k => ret_parts ?_ ?_ ?_ ?_ k
      · rw [e3]; rfl
      · unfold sigN; rw [e3]; rfl
      · unfold xpN; rw [e3]; rfl
      · unfold frN; rw [e3]; rfl
    · rw [hn] at e3
      simp only [e3, cond] at cC
      refine (kindUnpack_2 f b _ _ _ _ _ w hT (by omega) h8 (by omega) (by omega) cM cT cP cF cC).mono fun e w' k => ret_parts ?_ ?_ ?_ ?_ k
      · rw [e3]; rfl
      · unfold sigN; rw [e3]; rfl
      · unfold xpN; rw [e3]; rfl
      · unfold frN; rw [e3]; rfl
  · cases hn : negN f b
    · rw [hn] at e3
      simp only [e3, cond] at cC
      rcases leadBit f hf with ⟨q1, s, q2, q3, q4⟩ | ⟨q1, s, q2, q3, q4⟩
      · refine (kindUnpack_6_0 f b _ _ _ _ _ w hT s (by omega) (by omega) q2 (by rw [← q4]; exact ht) q1 q3 h7 h8 (by omega) (by omega) cM cT cP cF cC).mono fun e w' k => ret_parts ?_ ?_ ?_ ?_ k
        · rw [e3]; rfl
        · unfold sigN; rw [e3, ← q4]; rfl
        · unfold xpN; rw [e3]; rfl
        · unfold frN; rw [e3]; rfl
      · refine (kindUnpack_6_1 f b _ _ _ _ _ w hT s (by omega) (by omega) q2 (by rw [← q4]; exact ht) q1 q3 h7 h8 (by omega) (by omega) cM cT cP cF cC).mono fun e w' k => ret_parts ?_ ?_ ?_ ?_ k
        · rw [e3]; rfl
        · unfold sigN; rw [e3, ← q4]; rfl
        · unfold xpN; rw [e3]; rfl
        · unfold frN; rw [e3]; rfl
    · rw [hn] at e3
      simp only [e3, cond] at cC
      rcases leadBit f hf with ⟨q1, s, q2, q3, q4⟩ | ⟨q1, s, q2, q3, q4⟩
      · refine (kindUnpack_1_0 f b _ _ _ _ _ w hT s (by omega) (by omega) q2 (by rw [← q4]; exact ht) q1 q3 h7 h8 (by omega) (by omega) cM cT cP cF cC).mono fun e w' k => ret_parts ?_ ?_ ?_ ?_ k
        · rw [e3]; rfl
        · unfold sigN; rw [e3, ← q4]; rfl
        · unfold xpN; rw [e3]; rfl
        · unfold frN; rw [e3]; rfl
      · refine (kindUnpack_1_1 f b _ _ _ _ _ w hT s (by omega) (by omega) q2 (by rw [← q4]; exact ht) q1 q3 h7 h8 (by omega) (by omega) cM cT cP cF cC).mono fun e w' k => ret_parts ?_ ?_ ?_ ?_ k
        · rw [e3]; rfl
        · unfold sigN; rw [e3, ← q4]; rfl
        · unfold xpN; rw [e3]; rfl
        · unfold frN; rw [e3]; rfl
theorem kindUnpack_not (f b : Nat) (w : World) (hb : b < 2 ^ (64 * 2)) (h : fitsB f b = false) :
    Calls Tryd.prog 91 #[.int .u8 f, BV b] w fun e w' => e = .returned (.tuple #[PV 0 0 0 0, .int .i64 2]) ∧ Below w.heap.size w w' := by
  have cT := fun w => shapeFits_any f b w hb
  rw [h] at cT
  exact kindUnpack_no f b w cT
end Go.Proofs.YtdcgcjmajacgiaaDoor

namespace Go.Proofs.YtdcgcjmajacgiaaDoor
open Go.RowKit
theorem limbs_mod6 (a : Nat) : limbs (a % 2 ^ (64 * 6)) = limbs a := by
  have := limbs_mod a
  unfold top6 at this
  exact this
theorem put_sum (a b k : Nat) (cb : Bool) (hk : k < 6) (h : cbit a b k = cb) : (limbs ((a + b) % 2 ^ (64 * k))).setIfInBounds k (.int .u64 (addW (limb a k) (limb b k) cb)) = limbs ((a + b) % 2 ^ (64 * (k + 1))) := by
  unfold limb
  rw [addW_nat, limbs_put _ _ k hk (Nat.mod_lt _ (pw_pos k)) (Nat.mod_lt _ (by decide)), sum_step, h]
theorem car_sum (a b k : Nat) (cb : Bool) (h : cbit a b k = cb) : cbit a b (k + 1) = carW (limb a k) (limb b k) cb := by
  unfold limb
  rw [carW_nat, cbit_step, h]
set_option maxHeartbeats 1600000 in
set_option maxRecDepth 100000 in
theorem wideAdd_any (a b : Nat) (w : World) :
    Calls Tryd.prog 51 #[W a, W b] w fun e w' => e = .returned (.tuple #[W (a + b), .bool (cbit a b 6)]) ∧ Below w.heap.size w w' := by
  have sa := limbs_size a
  have sb := limbs_size b
  go_enter Tryd.func51, Tryd.ntmps51
  go_wp2_with fail
  go_loopw [5, 7] (fun c i wr => ∃ (k : Nat) (cb : Bool), k ≤ 6 ∧ i = .int .i64 k ∧ c = .bool cb ∧ Hid (cbit a b k = cb) ∧
      Blk 54 wr w.heap.size (limbs a) ∧ Blk 54 wr (w.heap.size + 1) (limbs b) ∧
      Blk 54 wr (w.heap.size + 1 + 1) (limbs ((a + b) % 2 ^ (64 * k))) ∧ Below w.heap.size w wr) (fun _ i _ => 6 - (intOf i).toNat)
  case atStart =>
    refine ⟨0, false, by omega, rfl, rfl, cbit_zero a b, ((Blk.new w _).alloc _).alloc _, ?_, ?_, ((((Below.refl _ _).alloc (Nat.le_refl _) _).alloc (by simp) _).alloc (by simp <;> omega) _)⟩
    · have := (Blk.new (T := 54) (w.alloc (.cells (limbs a) 54)) (limbs b)).alloc (.cells #[.int .u64 0, .int .u64 0, .int .u64 0, .int .u64 0, .int .u64 0, .int .u64 0] 54)
      simpa using this
    · have := Blk.new (T := 54) ((w.alloc (.cells (limbs a) 54)).alloc (.cells (limbs b) 54)) #[.int .u64 0, .int .u64 0, .int .u64 0, .int .u64 0, .int .u64 0, .int .u64 0]
      rw [show (a + b) % 2 ^ (64 * 0) = 0 from Nat.mod_one _, limbs_zero]
      simpa using this
  case round =>
    obtain ⟨k, cb, hk, rfl, rfl, hc, ha, hb, hs, hbel⟩ := hrel
    by_cases hlt : k < 6
    · have ca := ha.cell k (limbs_get a k hlt)
      have cb' := hb.cell k (limbs_get b k hlt)
      have cs := hs.cell k (limbs_get _ k hlt)
      have fs := hs.free k
      go_wp2_with fail
      go_region_with (go_at_call 102; refine (wordAdd_any _ _ _ _ (limb_w a k) (limb_w b k)).mono ?_; rintro e w' ⟨rfl, rfl⟩)
      all_goals go_wp2
      all_goals
        go_roundw
        case rel => exact ⟨k + 1, _, by omega, by go_num, rfl, car_sum a b k cb hc.out, (ha.other _ _ (by simp; omega)).drew, (hb.other _ _ (by simp)).drew, (hs.set k _ (put_sum a b k cb (by omega) hc.out)).drew, (hbel.setCell (by simp; omega) _).drew⟩
        case measure => simp [intOf]; omega
    · have : k = 6 := by omega
      subst this
      rw [limbs_mod6] at hs
      have c0 := hs.cell 0 (limbs_get _ 0 (by decide))
      have c1 := hs.cell 1 (limbs_get _ 1 (by decide))
      have c2 := hs.cell 2 (limbs_get _ 2 (by decide))
      have c3 := hs.cell 3 (limbs_get _ 3 (by decide))
      have c4 := hs.cell 4 (limbs_get _ 4 (by decide))
      have c5 := hs.cell 5 (limbs_get _ 5 (by decide))
      have f0 := hs.free 0
      have f1 := hs.free 1
      have f2 := hs.free 2
      have f3 := hs.free 3
      have f4 := hs.free 4
      have f5 := hs.free 5
      clear ha hb hlt
      go_wp2_with fail
      rw [hs.keep 0 _ (limbs_get _ 0 (by decide)), hs.keep 1 _ (limbs_get _ 1 (by decide)), hs.keep 2 _ (limbs_get _ 2 (by decide)), hs.keep 3 _ (limbs_get _ 3 (by decide)), hs.keep 4 _ (limbs_get _ 4 (by decide)), hs.keep 5 _ (limbs_get _ 5 (by decide))]
      refine bodyPost_ret (v := .tuple #[W (a + b), .bool cb]) (by simp [results, Tryd.results51, go_sem, c0, c1, c2, c3, c4, c5, limbs]) rfl ⟨by rw [hc.out], hbel⟩
end Go.Proofs.YtdcgcjmajacgiaaDoor

namespace Go.Proofs.YtdcgcjmajacgiaaDoor
open Go.RowKit
theorem set_limbs (a b : Nat) : setRow (limbs a) 0 (limbs b).toList = limbs b := set_all _ _ rfl
theorem wideOf_1 (w : World) : Calls Tryd.prog 33 #[.int .u64 1] w fun e w' => e = .returned (W 1) ∧ Below w.heap.size w w' := wideOf_any 1 w (by decide)
set_option maxRecDepth 100000 in
theorem walk88 {P : Prop} (h : P := by
  go_wp2_with (first
    | ((with_reducible show wpList _ _ _ (⟨_, .box _ _, _, _, _, _⟩ :: _) _ _); refine H.box rfl rfl (cells_agg _) ?_; (intro g w H; simp only [Act.put, List.setIfInBounds_toArray, List.set_cons_zero, List.set_cons_succ]))
    | ((with_reducible show wpList _ _ _ (⟨_, .alloc 54, _, _, _, _⟩ :: _) _ _); refine H.mk0 rfl rW rfl ?_; (intro g w H; simp only [Act.put, List.setIfInBounds_toArray, List.set_cons_zero, List.set_cons_succ]))
    | ((with_reducible show wpList _ _ _ (⟨_, .load 54 _, _, _, _, _⟩ :: _) _ _); refine H.ld rfl rW rfl rfl (by repeat (first | with_reducible exact List.mem_cons_self | apply List.mem_cons_of_mem)) (by first | with_reducible exact ext_limbs _ | with_reducible exact ext_parts_s _ _ _ _ | with_reducible exact ext_rough_s _ _ _ _ | with_reducible exact ext_parts_f _ _ _ _) (by rfl) ?_; simp only [Act.put, List.setIfInBounds_toArray, List.set_cons_zero, List.set_cons_succ])
    | ((with_reducible show wpList _ _ _ (⟨_, .load 57 _, _, _, _, _⟩ :: _) _ _); refine H.ld rfl rR rfl rfl (by repeat (first | with_reducible exact List.mem_cons_self | apply List.mem_cons_of_mem)) (by first | with_reducible exact ext_rough _ _ _ _) (by rfl) ?_; simp only [Act.put, List.setIfInBounds_toArray, List.set_cons_zero, List.set_cons_succ])
    | ((with_reducible show wpList _ _ _ (⟨_, .load 3 _, _, _, _, _⟩ :: _) _ _); refine H.ld1 rfl oI rfl rfl (by repeat (first | with_reducible exact List.mem_cons_self | apply List.mem_cons_of_mem)) (by first | with_reducible exact get_rough7 _ _ _ _ | with_reducible exact get_parts7 _ _ _ _ | with_reducible exact get_10 _) ?_; simp only [Act.put, List.setIfInBounds_toArray, List.set_cons_zero, List.set_cons_succ])
    | ((with_reducible show wpList _ _ _ (⟨_, .load 4 _, _, _, _, _⟩ :: _) _ _); refine H.ld1 rfl oT rfl rfl (by repeat (first | with_reducible exact List.mem_cons_self | apply List.mem_cons_of_mem)) (by first | with_reducible exact get_rough0 _ _ _ _ | with_reducible exact get_rough8 _ _ _ _ | with_reducible exact get_10 _) ?_; simp only [Act.put, List.setIfInBounds_toArray, List.set_cons_zero, List.set_cons_succ])
    | ((with_reducible show wpList _ _ _ (⟨_, .store 54 _ _, _, _, _, _⟩ :: _) _ _); refine H.st rfl rW rfl rfl (cells_agg _) (by repeat (first | with_reducible exact Upd.head _ | apply Upd.tail)) (set_limbs _ _) (by rfl) (by exact one_of rfl) (by first | exact ble_le rfl | (change _ + 1 ≤ 12; omega) | (change _ + 1 ≤ 6; omega)) ?_; (intro w H; simp only [Act.put]))
    | ((with_reducible show wpList _ _ _ (⟨_, .store 57 _ _, _, _, _, _⟩ :: _) _ _); refine H.st rfl rR rfl rfl (cells_agg _) (by repeat (first | with_reducible exact Upd.head _ | apply Upd.tail)) (by first | with_reducible exact set_all _ _ rfl) (by rfl) (by exact one_of rfl) (by first | exact ble_le rfl | (change _ + 1 ≤ 12; omega) | (change _ + 1 ≤ 6; omega)) ?_; (intro w H; simp only [Act.put]))
    | ((with_reducible show wpList _ _ _ (⟨_, .store 3 _ _, _, _, _, _⟩ :: _) _ _); refine H.st1 rfl oI rfl rfl (cells_int _ _) (by repeat (first | with_reducible exact Upd.head _ | apply Upd.tail)) (by first | with_reducible exact set_parts_x _ _ _ _ _ | with_reducible exact set_10 _ _) (by rfl) (by exact one_of rfl) (by first | exact ble_le rfl | (change _ + 1 ≤ 12; omega) | (change _ + 1 ≤ 6; omega)) ?_; (intro w H; simp only [Act.put]))
    | ((with_reducible show wpList _ _ _ (⟨_, .store 4 _ _, _, _, _, _⟩ :: _) _ _); refine H.st1 rfl oT rfl rfl (cells_bool _) (by repeat (first | with_reducible exact Upd.head _ | apply Upd.tail)) (by first | with_reducible exact set_rough_n _ _ _ _ _ | with_reducible exact set_10 _ _) (by rfl) (by exact one_of rfl) (by first | exact ble_le rfl | (change _ + 1 ≤ 12; omega) | (change _ + 1 ≤ 6; omega)) ?_; (intro w H; simp only [Act.put]))
    | ((with_reducible show Code.wp _ (.region 4 _ true) _ _ _); refine H.heldSub rfl (List.Sublist.refl _) ?_; intro H; (first | refine H.tk (List.Sublist.refl _) 0 rfl (by kernel_rfl) (by kernel_rfl) (by kernel_rfl) (fun _ _ _ _ h => h) rfl rW rfl rfl (by repeat (first | with_reducible exact List.mem_cons_self | apply List.mem_cons_of_mem)) (by first | with_reducible exact ext_limbs _ | with_reducible exact ext_parts_s _ _ _ _ | with_reducible exact ext_rough_s _ _ _ _ | with_reducible exact ext_parts_f _ _ _ _) (by rfl) ?_ | refine H.tk1 (List.Sublist.refl _) 0 rfl (by kernel_rfl) (by kernel_rfl) (by kernel_rfl) (fun _ _ _ _ h => h) rfl oT rfl rfl (by repeat (first | with_reducible exact List.mem_cons_self | apply List.mem_cons_of_mem)) (by first | with_reducible exact get_rough0 _ _ _ _ | with_reducible exact get_rough8 _ _ _ _ | with_reducible exact get_10 _) ?_); (try simp only [Act.put, List.setIfInBounds_toArray, List.set_cons_zero, List.set_cons_succ]); (try simp only [List.getElem_toArray, List.getElem_cons_zero, List.getElem_cons_succ]); refine H.takeRun (List.Sublist.refl _) 1 rfl (by kernel_rfl) (by kernel_rfl) (by kernel_rfl) (fun _ _ _ _ h => h) rfl (by intro w; go_simp; (try with_reducible rfl)) ?_; (try simp only [Act.put, List.setIfInBounds_toArray, List.set_cons_zero, List.set_cons_succ]); (try simp only [List.getElem_toArray, List.getElem_cons_zero, List.getElem_cons_succ]); (first | refine H.tk (List.Sublist.refl _) 2 rfl (by kernel_rfl) (by kernel_rfl) (by kernel_rfl) (fun _ _ _ _ h => h) rfl rW rfl rfl (by repeat (first | with_reducible exact List.mem_cons_self | apply List.mem_cons_of_mem)) (by first | with_reducible exact ext_limbs _ | with_reducible exact ext_parts_s _ _ _ _ | with_reducible exact ext_rough_s _ _ _ _ | with_reducible exact ext_parts_f _ _ _ _) (by rfl) ?_ | refine H.tk1 (List.Sublist.refl _) 2 rfl (by kernel_rfl) (by kernel_rfl) (by kernel_rfl) (fun _ _ _ _ h => h) rfl oT rfl rfl (by repeat (first | with_reducible exact List.mem_cons_self | apply List.mem_cons_of_mem)) (by first | with_reducible exact get_rough0 _ _ _ _ | with_reducible exact get_rough8 _ _ _ _ | with_reducible exact get_10 _) ?_); (try simp only [Act.put, List.setIfInBounds_toArray, List.set_cons_zero, List.set_cons_succ]); (try simp only [List.getElem_toArray, List.getElem_cons_zero, List.getElem_cons_succ]); refine H.takeRun (List.Sublist.refl _) 3 rfl (by kernel_rfl) (by kernel_rfl) (by kernel_rfl) (fun _ _ _ _ h => h) rfl (by intro w; go_simp; (try with_reducible rfl)) ?_; (try simp only [Act.put, List.setIfInBounds_toArray, List.set_cons_zero, List.set_cons_succ]); (try simp only [List.getElem_toArray, List.getElem_cons_zero, List.getElem_cons_succ]); refine held_one (i := 4) (by kernel_rfl) rfl rfl ?_; (first | refine H.ost rW rfl rfl (cells_agg _) (by repeat (first | with_reducible exact Upd.head _ | apply Upd.tail)) (set_limbs _ _) (by rfl) (by exact one_of rfl) (by first | exact ble_le rfl | (change _ + 1 ≤ 12; omega) | (change _ + 1 ≤ 6; omega)) ?_ | refine H.ost1 oT rfl rfl (cells_bool _) (by repeat (first | with_reducible exact Upd.head _ | apply Upd.tail)) (by first | with_reducible exact set_rough_n _ _ _ _ _ | with_reducible exact set_10 _ _) (by rfl) (by exact one_of rfl) (by first | exact ble_le rfl | (change _ + 1 ≤ 12; omega) | (change _ + 1 ≤ 6; omega)) ?_); intro w H; refine H.next (List.Sublist.refl _) ?_; (try simp only [Act.put]); refine H.takeRun (List.Sublist.refl _) 5 rfl (by kernel_rfl) (by kernel_rfl) (by kernel_rfl) (fun _ _ _ _ h => h) rfl (by intro w; go_simp; (try with_reducible rfl)) ?_; (try simp only [Act.put, List.setIfInBounds_toArray, List.set_cons_zero, List.set_cons_succ]); (try simp only [List.getElem_toArray, List.getElem_cons_zero, List.getElem_cons_succ]); refine wpAnyH_done (by kernel_rfl) ?_ _)
    | ((with_reducible show wpList _ _ _ (⟨_, .load 25 _, _, _, _, _⟩ :: _) _ _); refine H.ld1 rfl oU rfl rfl (by repeat (first | with_reducible exact List.mem_cons_self | apply List.mem_cons_of_mem)) (by first | with_reducible exact get_20 _ _ | with_reducible exact get_21 _ _ | with_reducible exact limbs_o0 _ | with_reducible exact limbs_o1 _ | with_reducible exact limbs_o2 _ | with_reducible exact limbs_o3 _ | with_reducible exact limbs_o4 _ | with_reducible exact limbs_o5 _) ?_; simp only [Act.put, List.setIfInBounds_toArray, List.set_cons_zero, List.set_cons_succ])
    | ((with_reducible show wpList _ _ _ (⟨_, .store 25 _ _, _, _, _, _⟩ :: _) _ _); refine H.st1 rfl oU rfl rfl (cells_int _ _) (by repeat (first | with_reducible exact Upd.head _ | apply Upd.tail)) (by first | with_reducible exact set_20 _ _ _ | with_reducible exact set_21 _ _ _ | with_reducible exact set_10 _ _) (by rfl) (by exact one_of rfl) (by first | exact ble_le rfl | (change _ + 1 ≤ 12; omega) | (change _ + 1 ≤ 6; omega)) ?_; (intro w H; simp only [Act.put]))
    | ((with_reducible show Code.wp _ (.region 11 _ true) _ _ _); refine H.heldSub rfl (List.Sublist.cons _ (List.Sublist.refl _)) ?_; intro H; refine held_two (i := 0) (k := 1) (by kernel_rfl) rfl rfl rfl rfl ?_ ?_; (refine H.old rW rfl rfl (by repeat (first | with_reducible exact List.mem_cons_self | apply List.mem_cons_of_mem)) (by first | with_reducible exact ext_limbs _ | with_reducible exact ext_parts_s _ _ _ _ | with_reducible exact ext_rough_s _ _ _ _ | with_reducible exact ext_parts_f _ _ _ _) (by rfl) ?_; refine H.next (List.Sublist.cons _ (List.Sublist.refl _)) ?_; (try simp only [Act.put, List.setIfInBounds_toArray, List.set_cons_zero, List.set_cons_succ]); (try simp only [List.getElem_toArray, List.getElem_cons_zero, List.getElem_cons_succ]); refine held_one (i := 1) (by kernel_rfl) rfl rfl ?_; unfold Oper.wp; go_simp; (first | (go_at_call 33; ((with_reducible refine (wideOf_1 _).mono ?_); rintro e w ⟨rfl, hb⟩; replace H := H.call hb; clear hb)) | (go_at_call 51; ((with_reducible refine (wideAdd_any k 1 _).mono ?_); rintro e w ⟨rfl, hb⟩; replace H := H.call hb; clear hb))); refine H.next (List.Sublist.cons _ (List.Sublist.refl _)) ?_; (try simp only [Act.put, List.setIfInBounds_toArray, List.set_cons_zero, List.set_cons_succ]); (try simp only [List.getElem_toArray, List.getElem_cons_zero, List.getElem_cons_succ])); rotate_left; (unfold Oper.wp; go_simp; (first | (go_at_call 33; ((with_reducible refine (wideOf_1 _).mono ?_); rintro e w ⟨rfl, hb⟩; replace H := H.call hb; clear hb)) | (go_at_call 51; ((with_reducible refine (wideAdd_any k 1 _).mono ?_); rintro e w ⟨rfl, hb⟩; replace H := H.call hb; clear hb))); refine H.next (List.Sublist.cons _ (List.Sublist.refl _)) ?_; (try simp only [Act.put, List.setIfInBounds_toArray, List.set_cons_zero, List.set_cons_succ]); (try simp only [List.getElem_toArray, List.getElem_cons_zero, List.getElem_cons_succ]); refine held_one (i := 0) (by kernel_rfl) rfl rfl ?_; refine H.old rW rfl rfl (by repeat (first | with_reducible exact List.mem_cons_self | apply List.mem_cons_of_mem)) (by first | with_reducible exact ext_limbs _ | with_reducible exact ext_parts_s _ _ _ _ | with_reducible exact ext_rough_s _ _ _ _ | with_reducible exact ext_parts_f _ _ _ _) (by rfl) ?_; refine H.next (List.Sublist.cons _ (List.Sublist.refl _)) ?_; (try simp only [Act.put, List.setIfInBounds_toArray, List.set_cons_zero, List.set_cons_succ]); (try simp only [List.getElem_toArray, List.getElem_cons_zero, List.getElem_cons_succ])); all_goals (refine held_one (i := 2) (by kernel_rfl) rfl rfl ?_; unfold Oper.wp; go_simp; (first | (go_at_call 33; ((with_reducible refine (wideOf_1 _).mono ?_); rintro e w ⟨rfl, hb⟩; replace H := H.call hb; clear hb)) | (go_at_call 51; ((with_reducible refine (wideAdd_any k 1 _).mono ?_); rintro e w ⟨rfl, hb⟩; replace H := H.call hb; clear hb))); refine H.next (List.Sublist.cons _ (List.Sublist.refl _)) ?_; (try simp only [Act.put, List.setIfInBounds_toArray, List.set_cons_zero, List.set_cons_succ]); (try simp only [List.getElem_toArray, List.getElem_cons_zero, List.getElem_cons_succ]); refine H.takeRun (List.Sublist.cons _ (List.Sublist.refl _)) 3 rfl (by kernel_rfl) (by kernel_rfl) (by kernel_rfl) (fun _ _ _ _ h => h) rfl (by intro w; go_simp; (try with_reducible rfl)) ?_; (try simp only [Act.put, List.setIfInBounds_toArray, List.set_cons_zero, List.set_cons_succ]); (try simp only [List.getElem_toArray, List.getElem_cons_zero, List.getElem_cons_succ]); refine H.takeRun (List.Sublist.cons _ (List.Sublist.refl _)) 4 rfl (by kernel_rfl) (by kernel_rfl) (by kernel_rfl) (fun _ _ _ _ h => h) rfl (by intro w; go_simp; (try with_reducible rfl)) ?_; (try simp only [Act.put, List.setIfInBounds_toArray, List.set_cons_zero, List.set_cons_succ]); (try simp only [List.getElem_toArray, List.getElem_cons_zero, List.getElem_cons_succ]); refine H.takeRun (List.Sublist.cons _ (List.Sublist.refl _)) 5 rfl (by kernel_rfl) (by kernel_rfl) (by kernel_rfl) (fun _ _ _ _ h => h) rfl (by intro w; go_simp; (try with_reducible rfl)) ?_; (try simp only [Act.put, List.setIfInBounds_toArray, List.set_cons_zero, List.set_cons_succ]); (try simp only [List.getElem_toArray, List.getElem_cons_zero, List.getElem_cons_succ]); refine held_one (i := 6) (by kernel_rfl) rfl rfl ?_; refine H.ost rW rfl rfl (cells_agg _) (by repeat (first | with_reducible exact Upd.head _ | apply Upd.tail)) (set_limbs _ _) (by rfl) (by exact one_of rfl) (by first | exact ble_le rfl | (change _ + 1 ≤ 12; omega) | (change _ + 1 ≤ 6; omega)) ?_; intro w H; refine H.next (List.Sublist.cons _ (List.Sublist.refl _)) ?_; (try simp only [Act.put]); refine wpAnyH_done (by kernel_rfl) ?_ _))
    | (go_at_call 48; ((with_reducible refine (cL _).mono ?_); rintro e w ⟨rfl, hb⟩; replace H := H.call hb; clear hb))
    | (go_at_call 92; ((with_reducible refine (cC _ (HT.out.below H.below)).mono ?_); rintro e w ⟨rfl, hb⟩; replace H := H.call hb; clear hb))
    | (go_at_call 93; ((with_reducible refine (cR _).mono ?_); rintro e w' ⟨rfl, rfl⟩))
    )
  all_goals (refine bodyPost_ret (results_ct rfl rfl (H.res rW (by repeat (first | with_reducible exact List.mem_cons_self | apply List.mem_cons_of_mem)) (by first | with_reducible exact ext_limbs _ | with_reducible exact ext_parts_s _ _ _ _ | with_reducible exact ext_rough_s _ _ _ _ | with_reducible exact ext_parts_f _ _ _ _) (by rfl))) rfl ⟨?_, H.below⟩; exact rfl)) : P := h
set_option maxHeartbeats 1600000 in
set_option maxRecDepth 100000 in
theorem roundGrid_up (m s k : Nat) (e at_ n : Int) (neg mo lo : Bool) (w : World) (hT : Tab w) (h1 : -2000000 ≤ e) (h2 : e ≤ 2000000) (h3 : -2000000 ≤ at_) (h4 : at_ ≤ 2000000) (hn : at_ - e = n) (hn0 : n ≤ 0) (cL : ∀ w, Calls Tryd.prog 48 #[W s, .int .i64 (-n)] w fun e w' => e = .returned (.tuple #[W k, .bool lo]) ∧ Below w.heap.size w w') :
    Calls Tryd.prog 88 #[.int .u8 m, RV neg s e mo, .int .i64 at_] w fun e w' => e = .returned (.tuple #[W k, .bool (!mo)]) ∧ Below w.heap.size w w' := by
  have H := Own.start w
  have HT := Lib.hid hT
  clear hT
  go_enter Tryd.func88, Tryd.ntmps88
  exact walk88
set_option maxHeartbeats 1600000 in
set_option maxRecDepth 100000 in
theorem roundGrid_f_t (m s k : Nat) (e at_ n : Int) (half : Int) (neg ex : Bool) (w : World) (hT : Tab w) (h1 : -2000000 ≤ e) (h2 : e ≤ 2000000) (h3 : -2000000 ≤ at_) (h4 : at_ ≤ 2000000) (hn : at_ - e = n) (hn0 : 0 < n) (cC : ∀ w, Tab w → Calls Tryd.prog 92 #[W s, .int .i64 n] w fun e w' => e = .returned (.tuple #[W k, .int .i64 half, .bool ex]) ∧ Below w.heap.size w w') (cR : ∀ w, Calls Tryd.prog 93 #[.int .u8 m, .bool neg, .bool (Go.bits .and .u64 (limb k 0) 1 == 1), .int .i64 half, .bool ex] w fun e w' => e = .returned (.bool true) ∧ w = w') :
    Calls Tryd.prog 88 #[.int .u8 m, RV neg s e false, .int .i64 at_] w fun e w' => e = .returned (.tuple #[W (k + 1), .bool ex]) ∧ Below w.heap.size w w' := by
  have H := Own.start w
  have HT := Lib.hid hT
  clear hT
  have n0 : ¬ n ≤ 0 := by omega
  go_enter Tryd.func88, Tryd.ntmps88
  exact walk88
set_option maxHeartbeats 1600000 in
set_option maxRecDepth 100000 in
theorem roundGrid_f_f (m s k : Nat) (e at_ n : Int) (half : Int) (neg ex : Bool) (w : World) (hT : Tab w) (h1 : -2000000 ≤ e) (h2 : e ≤ 2000000) (h3 : -2000000 ≤ at_) (h4 : at_ ≤ 2000000) (hn : at_ - e = n) (hn0 : 0 < n) (cC : ∀ w, Tab w → Calls Tryd.prog 92 #[W s, .int .i64 n] w fun e w' => e = .returned (.tuple #[W k, .int .i64 half, .bool ex]) ∧ Below w.heap.size w w') (cR : ∀ w, Calls Tryd.prog 93 #[.int .u8 m, .bool neg, .bool (Go.bits .and .u64 (limb k 0) 1 == 1), .int .i64 half, .bool ex] w fun e w' => e = .returned (.bool false) ∧ w = w') :
    Calls Tryd.prog 88 #[.int .u8 m, RV neg s e false, .int .i64 at_] w fun e w' => e = .returned (.tuple #[W k, .bool ex]) ∧ Below w.heap.size w w' := by
  have H := Own.start w
  have HT := Lib.hid hT
  clear hT
  have n0 : ¬ n ≤ 0 := by omega
  go_enter Tryd.func88, Tryd.ntmps88
  exact walk88
set_option maxHeartbeats 1600000 in
set_option maxRecDepth 100000 in
theorem roundGrid_tz_t (m s k : Nat) (e at_ n : Int) (half : Int) (neg ex : Bool) (w : World) (hT : Tab w) (h1 : -2000000 ≤ e) (h2 : e ≤ 2000000) (h3 : -2000000 ≤ at_) (h4 : at_ ≤ 2000000) (hn : at_ - e = n) (hn0 : 0 < n) (hz : (half == 0) = true) (cC : ∀ w, Tab w → Calls Tryd.prog 92 #[W s, .int .i64 n] w fun e w' => e = .returned (.tuple #[W k, .int .i64 half, .bool ex]) ∧ Below w.heap.size w w') (cR : ∀ w, Calls Tryd.prog 93 #[.int .u8 m, .bool neg, .bool (Go.bits .and .u64 (limb k 0) 1 == 1), .int .i64 1, .bool false] w fun e w' => e = .returned (.bool true) ∧ w = w') :
    Calls Tryd.prog 88 #[.int .u8 m, RV neg s e true, .int .i64 at_] w fun e w' => e = .returned (.tuple #[W (k + 1), .bool false]) ∧ Below w.heap.size w w' := by
  have H := Own.start w
  have HT := Lib.hid hT
  clear hT
  have n0 : ¬ n ≤ 0 := by omega
  go_enter Tryd.func88, Tryd.ntmps88
  exact walk88
set_option maxHeartbeats 1600000 in
set_option maxRecDepth 100000 in
theorem roundGrid_tz_f (m s k : Nat) (e at_ n : Int) (half : Int) (neg ex : Bool) (w : World) (hT : Tab w) (h1 : -2000000 ≤ e) (h2 : e ≤ 2000000) (h3 : -2000000 ≤ at_) (h4 : at_ ≤ 2000000) (hn : at_ - e = n) (hn0 : 0 < n) (hz : (half == 0) = true) (cC : ∀ w, Tab w → Calls Tryd.prog 92 #[W s, .int .i64 n] w fun e w' => e = .returned (.tuple #[W k, .int .i64 half, .bool ex]) ∧ Below w.heap.size w w') (cR : ∀ w, Calls Tryd.prog 93 #[.int .u8 m, .bool neg, .bool (Go.bits .and .u64 (limb k 0) 1 == 1), .int .i64 1, .bool false] w fun e w' => e = .returned (.bool false) ∧ w = w') :
    Calls Tryd.prog 88 #[.int .u8 m, RV neg s e true, .int .i64 at_] w fun e w' => e = .returned (.tuple #[W k, .bool false]) ∧ Below w.heap.size w w' := by
  have H := Own.start w
  have HT := Lib.hid hT
  clear hT
  have n0 : ¬ n ≤ 0 := by omega
  go_enter Tryd.func88, Tryd.ntmps88
  exact walk88
set_option maxHeartbeats 1600000 in
set_option maxRecDepth 100000 in
theorem roundGrid_tn_t (m s k : Nat) (e at_ n : Int) (half : Int) (neg ex : Bool) (w : World) (hT : Tab w) (h1 : -2000000 ≤ e) (h2 : e ≤ 2000000) (h3 : -2000000 ≤ at_) (h4 : at_ ≤ 2000000) (hn : at_ - e = n) (hn0 : 0 < n) (hz : (half == 0) = false) (cC : ∀ w, Tab w → Calls Tryd.prog 92 #[W s, .int .i64 n] w fun e w' => e = .returned (.tuple #[W k, .int .i64 half, .bool ex]) ∧ Below w.heap.size w w') (cR : ∀ w, Calls Tryd.prog 93 #[.int .u8 m, .bool neg, .bool (Go.bits .and .u64 (limb k 0) 1 == 1), .int .i64 half, .bool false] w fun e w' => e = .returned (.bool true) ∧ w = w') :
    Calls Tryd.prog 88 #[.int .u8 m, RV neg s e true, .int .i64 at_] w fun e w' => e = .returned (.tuple #[W (k + 1), .bool false]) ∧ Below w.heap.size w w' := by
  have H := Own.start w
  have HT := Lib.hid hT
  clear hT
  have n0 : ¬ n ≤ 0 := by omega
  go_enter Tryd.func88, Tryd.ntmps88
  exact walk88
set_option maxHeartbeats 1600000 in
set_option maxRecDepth 100000 in
theorem roundGrid_tn_f (m s k : Nat) (e at_ n : Int) (half : Int) (neg ex : Bool) (w : World) (hT : Tab w) (h1 : -2000000 ≤ e) (h2 : e ≤ 2000000) (h3 : -2000000 ≤ at_) (h4 : at_ ≤ 2000000) (hn : at_ - e = n) (hn0 : 0 < n) (hz : (half == 0) = false) (cC : ∀ w, Tab w → Calls Tryd.prog 92 #[W s, .int .i64 n] w fun e w' => e = .returned (.tuple #[W k, .int .i64 half, .bool ex]) ∧ Below w.heap.size w w') (cR : ∀ w, Calls Tryd.prog 93 #[.int .u8 m, .bool neg, .bool (Go.bits .and .u64 (limb k 0) 1 == 1), .int .i64 half, .bool false] w fun e w' => e = .returned (.bool false) ∧ w = w') :
    Calls Tryd.prog 88 #[.int .u8 m, RV neg s e true, .int .i64 at_] w fun e w' => e = .returned (.tuple #[W k, .bool false]) ∧ Below w.heap.size w w' := by
  have H := Own.start w
  have HT := Lib.hid hT
  clear hT
  have n0 : ¬ n ≤ 0 := by omega
  go_enter Tryd.func88, Tryd.ntmps88
  exact walk88
end Go.Proofs.YtdcgcjmajacgiaaDoor
