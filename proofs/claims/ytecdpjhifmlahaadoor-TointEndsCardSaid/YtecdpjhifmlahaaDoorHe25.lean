/- Part 25 of what is proved: Unp3, Unp4, Unp5, Unp6, Unp7. -/
import Derived.Deep.Cut
import Derived.Test.YtecdpjhifmlahaaDoorHe1
import Derived.Test.YtecdpjhifmlahaaDoorHe3
import Derived.Test.YtecdpjhifmlahaaDoorHe24
set_option linter.unusedSimpArgs false
set_option linter.unusedVariables false
set_option linter.unnecessarySimpa false
set_option maxRecDepth 100000
set_option maxHeartbeats 1600000
namespace Go.Proofs.YtecdpjhifmlahaaDoor
open Go.RowKit
/-- A fraction stored. -/
def putFr (w : World) (g y : Nat) : World := ((((((w.setCell ⟨g, 8, none⟩ (.int .u64 (limb y 0))).setCell ⟨g, 9, none⟩ (.int .u64 (limb y 1))).setCell ⟨g, 10, none⟩ (.int .u64 (limb y 2))).setCell ⟨g, 11, none⟩ (.int .u64 (limb y 3))).setCell ⟨g, 12, none⟩ (.int .u64 (limb y 4))).setCell ⟨g, 13, none⟩ (.int .u64 (limb y 5)))
theorem Blk.putFr {T : TypeId} {w : World} {g c s : Nat} {x : Int} {f : Nat} (h : Blk T w g (parts c s x f)) (y : Nat) : Blk T (putFr w g y) g (parts c s x y) := by
  unfold Go.Proofs.YtecdpjhifmlahaaDoor.putFr
  exact Blk.cast ((((((h.set 8 _ rfl).set 9 _ rfl).set 10 _ rfl).set 11 _ rfl).set 12 _ rfl).set 13 _ rfl) (by simp [parts])
theorem Blk.putFr_other {T : TypeId} {w : World} {g k : Nat} {cs : Array Value} (h : Blk T w g cs) (y : Nat) (hne : g ≠ k) : Blk T (Go.Proofs.YtecdpjhifmlahaaDoor.putFr w k y) g cs := ((((((h.other _ _ hne).other _ _ hne).other _ _ hne).other _ _ hne).other _ _ hne).other _ _ hne)
theorem below_putFr {B : Nat} {w0 w : World} {g : Nat} (hb : Below B w0 w) (hg : B ≤ g) (y : Nat) : Below B w0 (putFr w g y) := ((((((hb.setCell hg _).setCell hg _).setCell hg _).setCell hg _).setCell hg _).setCell hg _)
set_option maxHeartbeats 3200000 in
theorem kindUnpack_8 (f b e t p : Nat) (neg : Bool) (w : World) (hT : Tab w)
    (cT : ∀ w, Calls Tryd.prog 29 #[.int .u8 f, BV b] w fun e' w' => e' = .returned (.bool true) ∧ Below w.heap.size w w')
    (cP : ∀ w, Calls Tryd.prog 30 #[.int .u8 f] w fun e' w' => e' = .returned (.int .i64 (p : Nat)) ∧ Below w.heap.size w w')
    (cF : ∀ w, Tab w → Calls Tryd.prog 31 #[.int .u8 f, BV b] w fun e' w' => e' = .returned (.tuple #[.bool neg, .int .i64 (e : Nat), W t]) ∧ Below w.heap.size w w')
    (cC : ∀ w, Tab w → Calls Tryd.prog 32 #[.int .u8 f, BV b] w fun e' w' => e' = .returned (.int .u8 8) ∧ Below w.heap.size w w') :
    Calls Tryd.prog 13 #[.int .u8 f, BV b] w fun e' w' => e' = .returned (.tuple #[PV 8 0 0 t, .int .i64 0]) ∧ Below w.heap.size w w' := by
  have HT := Lib.hid hT
  clear hT
  go_enter Tryd.func13, Tryd.ntmps13
  go_wp2_with fail
  refine (cT _).mono ?_
  rintro e' w1 ⟨rfl, hb1⟩
  go_wp2_with fail
  refine (cP _).mono ?_
  rintro e' w2 ⟨rfl, hb2⟩
  have b4 : Blk 45 w2 (w.heap.size + 1) (parts 0 0 0 0) := by
    rw [parts_zero]
    have := (Blk.new (T := 45) (w.alloc (.cells #[.int .u64 (limb b 1), .int .u64 (limb b 0)] 27 (0, 0))) #[.int .u8 0, .int .u64 0, .int .u64 0, .int .u64 0, .int .u64 0, .int .u64 0, .int .u64 0, .int .i64 0, .int .u64 0, .int .u64 0, .int .u64 0, .int .u64 0, .int .u64 0, .int .u64 0]).below hb1 (by simp)
    have := this.below hb2 this.lt
    simpa using this
  have b3 : Blk 27 w2 w.heap.size #[.int .u64 (limb b 1), .int .u64 (limb b 0)] := by
    have h1 := ((Blk.new (T := 27) w #[.int .u64 (limb b 1), .int .u64 (limb b 0)]).alloc (.cells #[.int .u8 0, .int .u64 0, .int .u64 0, .int .u64 0, .int .u64 0, .int .u64 0, .int .u64 0, .int .i64 0, .int .u64 0, .int .u64 0, .int .u64 0, .int .u64 0, .int .u64 0, .int .u64 0] 45 (0, 0))).below hb1 (by simp <;> omega)
    exact h1.below hb2 h1.lt
  have hw2 := ((((Below.refl w.heap.size w).alloc (Nat.le_refl _) (.cells #[.int .u64 (limb b 1), .int .u64 (limb b 0)] 27 (0, 0))).alloc (by simp) (.cells #[.int .u8 0, .int .u64 0, .int .u64 0, .int .u64 0, .int .u64 0, .int .u64 0, .int .u64 0, .int .i64 0, .int .u64 0, .int .u64 0, .int .u64 0, .int .u64 0, .int .u64 0, .int .u64 0] 45 (0, 0))).trans (hb1.mono (by simp <;> omega))).trans (hb2.mono v17_)
  clear hb1 hb2
  have g0 := b3.cell 0 rfl
  have g1 := b3.cell 1 rfl
  go_wp2_with fail
  refine (cF _ (HT.out.below hw2)).mono ?_
  rintro e' w3 ⟨rfl, hb3⟩
  replace hw2 := (hw2.trans (hb3.mono (Nat.le_of_lt b3.lt))).alloc v18_ (.cells (limbs t) 33 (0, 0))
  replace b4 := (b4.below hb3 b4.lt).alloc (.cells (limbs t) 33 (0, 0))
  replace b3 := (b3.below hb3 b3.lt).alloc (.cells (limbs t) 33 (0, 0))
  have b9 := Blk.new (T := 33) w3 (limbs t)
  clear g0 g1 hb3
  go_upto_region 5 with (fail)
  change Code.wp _ _ _ _ (w3.alloc (.cells (limbs t) 33 (0, 0)))
  generalize w3.alloc (.cells (limbs t) 33 (0, 0)) = v at *
  have g0 := b3.cell 0 rfl
  have g1 := b3.cell 1 rfl
  go_wp2_with fail
  refine (cC _ (HT.out.below hw2)).mono ?_
  rintro e' w4 ⟨rfl, hb4⟩
  replace hw2 := (hw2.trans (hb4.mono (Nat.le_of_lt b3.lt))).alloc v19_ (.cells (parts 8 0 0 0) 45 (0, 0))
  have nE : w.heap.size + 1 < w4.heap.size := (b4.below hb4 b4.lt).lt
  replace b4 := (b4.below hb4 b4.lt).alloc (.cells (parts 8 0 0 0) 45 (0, 0))
  replace b9 := (b9.below hb4 b9.lt).alloc (.cells (parts 8 0 0 0) 45 (0, 0))
  have b10 := Blk.new (T := 45) w4 (parts 8 0 0 0)
  clear g0 g1 hb4 b3
  go_upto_region 6 with (fail)
  rw [← show parts 8 0 0 0 = #[.int .u8 8, .int .u64 0, .int .u64 0, .int .u64 0, .int .u64 0, .int .u64 0, .int .u64 0, .int .i64 0, .int .u64 0, .int .u64 0, .int .u64 0, .int .u64 0, .int .u64 0, .int .u64 0] from parts_zero 8]
  generalize w4.alloc (.cells (parts 8 0 0 0) 45 (0, 0)) = v at *
  obtain ⟨d0, d1, d2, d3, d4, d5, d6, d7, d8, d9, d10, d11, d12, d13⟩ := b10.p14
  obtain ⟨c0, c1, c2, c3, c4, c5, c6, c7, c8, c9, c10, c11, c12, c13⟩ := b4.p14
  obtain ⟨n0, n1, n2, n3, n4, n5, n6, n7, n8, n9, n10, n11, n12, n13⟩ := b4.free14
  simp only [limb_zero] at d0 d1 d2 d3 d4 d5 d6 d7 d8 d9 d10 d11 d12 d13 c0 c1 c2 c3 c4 c5 c6 c7 c8 c9 c10 c11 c12 c13
  replace d0 : v.cell? ⟨w4.heap.size, 0, none⟩ = some (.int .u8 8) := d0
  replace c0 : v.cell? ⟨w.heap.size + 1, 0, none⟩ = some (.int .u8 0) := c0
  obtain ⟨m0, m1, m2, m3, m4, m5⟩ := b9.six
  obtain ⟨k0, k1, k2, k3, k4, k5, k6, k7, k8, k9, k10, k11, k12, k13⟩ := b10.free14
  have B10 := Lib.hid b10
  have B4 := Lib.hid b4
  clear b10 b9 b4 cT cP cF cC
  have HW := Lib.hid hw2
  have NE := Lib.hid nE
  clear hw2 nE
  go_upto_region 18 with (fail)
  have b10 := B10.out.putFr t
  have b4 := B4.out.putFr_other t (Nat.ne_of_lt NE.out)
  have hw := below_putFr HW.out (by have := NE.out; omega : w.heap.size ≤ w4.heap.size) t
  clear B10 B4 HW d0 d1 d2 d3 d4 d5 d6 d7 d8 d9 d10 d11 d12 d13 c0 c1 c2 c3 c4 c5 c6 c7 c8 c9 c10 c11 c12 c13 n0 n1 n2 n3 n4 n5 n6 n7 n8 n9 n10 n11 n12 n13 k0 k1 k2 k3 k4 k5 k6 k7 k8 k9 k10 k11 k12 k13 m0 m1 m2 m3 m4 m5
  change Code.wp _ _ _ _ (putFr v w4.heap.size t)
  generalize putFr v w4.heap.size t = u at *
  obtain ⟨d0, d1, d2, d3, d4, d5, d6, d7, d8, d9, d10, d11, d12, d13⟩ := b10.p14
  obtain ⟨c0, c1, c2, c3, c4, c5, c6, c7, c8, c9, c10, c11, c12, c13⟩ := b4.p14
  obtain ⟨n0, n1, n2, n3, n4, n5, n6, n7, n8, n9, n10, n11, n12, n13⟩ := b4.free14
  simp only [limb_zero] at d0 d1 d2 d3 d4 d5 d6 d7 d8 d9 d10 d11 d12 d13 c0 c1 c2 c3 c4 c5 c6 c7 c8 c9 c10 c11 c12 c13
  replace d0 : u.cell? ⟨w4.heap.size, 0, none⟩ = some (.int .u8 8) := d0
  replace c0 : u.cell? ⟨w.heap.size + 1, 0, none⟩ = some (.int .u8 0) := c0
  clear b10 b4
  have HW := Lib.hid hw
  clear hw
  go_wp2_with fail
  have hb := below_put14 HW.out (by omega : w.heap.size ≤ w.heap.size + 1) 8 0 0 t
  unfold put14 at hb
  simp only [limb_zero] at hb
  exact bodyPost_ret (v := .tuple #[PV 8 0 0 t, .int .i64 0]) v20_ rfl ⟨rfl, hb⟩
set_option maxHeartbeats 3200000 in
theorem kindUnpack_9 (f b e t p : Nat) (neg : Bool) (w : World) (hT : Tab w)
    (cT : ∀ w, Calls Tryd.prog 29 #[.int .u8 f, BV b] w fun e' w' => e' = .returned (.bool true) ∧ Below w.heap.size w w')
    (cP : ∀ w, Calls Tryd.prog 30 #[.int .u8 f] w fun e' w' => e' = .returned (.int .i64 (p : Nat)) ∧ Below w.heap.size w w')
    (cF : ∀ w, Tab w → Calls Tryd.prog 31 #[.int .u8 f, BV b] w fun e' w' => e' = .returned (.tuple #[.bool neg, .int .i64 (e : Nat), W t]) ∧ Below w.heap.size w w')
    (cC : ∀ w, Tab w → Calls Tryd.prog 32 #[.int .u8 f, BV b] w fun e' w' => e' = .returned (.int .u8 9) ∧ Below w.heap.size w w') :
    Calls Tryd.prog 13 #[.int .u8 f, BV b] w fun e' w' => e' = .returned (.tuple #[PV 9 0 0 t, .int .i64 0]) ∧ Below w.heap.size w w' := by
  have HT := Lib.hid hT
  clear hT
  go_enter Tryd.func13, Tryd.ntmps13
  go_wp2_with fail
  refine (cT _).mono ?_
  rintro e' w1 ⟨rfl, hb1⟩
  go_wp2_with fail
  refine (cP _).mono ?_
  rintro e' w2 ⟨rfl, hb2⟩
  have b4 : Blk 45 w2 (w.heap.size + 1) (parts 0 0 0 0) := by
    rw [parts_zero]
    have := (Blk.new (T := 45) (w.alloc (.cells #[.int .u64 (limb b 1), .int .u64 (limb b 0)] 27 (0, 0))) #[.int .u8 0, .int .u64 0, .int .u64 0, .int .u64 0, .int .u64 0, .int .u64 0, .int .u64 0, .int .i64 0, .int .u64 0, .int .u64 0, .int .u64 0, .int .u64 0, .int .u64 0, .int .u64 0]).below hb1 (by simp)
    have := this.below hb2 this.lt
    simpa using this
  have b3 : Blk 27 w2 w.heap.size #[.int .u64 (limb b 1), .int .u64 (limb b 0)] := by
    have h1 := ((Blk.new (T := 27) w #[.int .u64 (limb b 1), .int .u64 (limb b 0)]).alloc (.cells #[.int .u8 0, .int .u64 0, .int .u64 0, .int .u64 0, .int .u64 0, .int .u64 0, .int .u64 0, .int .i64 0, .int .u64 0, .int .u64 0, .int .u64 0, .int .u64 0, .int .u64 0, .int .u64 0] 45 (0, 0))).below hb1 (by simp <;> omega)
    exact h1.below hb2 h1.lt
  have hw2 := ((((Below.refl w.heap.size w).alloc (Nat.le_refl _) (.cells #[.int .u64 (limb b 1), .int .u64 (limb b 0)] 27 (0, 0))).alloc (by simp) (.cells #[.int .u8 0, .int .u64 0, .int .u64 0, .int .u64 0, .int .u64 0, .int .u64 0, .int .u64 0, .int .i64 0, .int .u64 0, .int .u64 0, .int .u64 0, .int .u64 0, .int .u64 0, .int .u64 0] 45 (0, 0))).trans (hb1.mono (by simp <;> omega))).trans (hb2.mono v17_)
  clear hb1 hb2
  have g0 := b3.cell 0 rfl
  have g1 := b3.cell 1 rfl
  go_wp2_with fail
  refine (cF _ (HT.out.below hw2)).mono ?_
  rintro e' w3 ⟨rfl, hb3⟩
  replace hw2 := (hw2.trans (hb3.mono (Nat.le_of_lt b3.lt))).alloc v18_ (.cells (limbs t) 33 (0, 0))
  replace b4 := (b4.below hb3 b4.lt).alloc (.cells (limbs t) 33 (0, 0))
  replace b3 := (b3.below hb3 b3.lt).alloc (.cells (limbs t) 33 (0, 0))
  have b9 := Blk.new (T := 33) w3 (limbs t)
  clear g0 g1 hb3
  go_upto_region 5 with (fail)
  change Code.wp _ _ _ _ (w3.alloc (.cells (limbs t) 33 (0, 0)))
  generalize w3.alloc (.cells (limbs t) 33 (0, 0)) = v at *
  have g0 := b3.cell 0 rfl
  have g1 := b3.cell 1 rfl
  go_wp2_with fail
  refine (cC _ (HT.out.below hw2)).mono ?_
  rintro e' w4 ⟨rfl, hb4⟩
  replace hw2 := (hw2.trans (hb4.mono (Nat.le_of_lt b3.lt))).alloc v19_ (.cells (parts 9 0 0 0) 45 (0, 0))
  have nE : w.heap.size + 1 < w4.heap.size := (b4.below hb4 b4.lt).lt
  replace b4 := (b4.below hb4 b4.lt).alloc (.cells (parts 9 0 0 0) 45 (0, 0))
  replace b9 := (b9.below hb4 b9.lt).alloc (.cells (parts 9 0 0 0) 45 (0, 0))
  have b10 := Blk.new (T := 45) w4 (parts 9 0 0 0)
  clear g0 g1 hb4 b3
  go_upto_region 6 with (fail)
  rw [← show parts 9 0 0 0 = #[.int .u8 9, .int .u64 0, .int .u64 0, .int .u64 0, .int .u64 0, .int .u64 0, .int .u64 0, .int .i64 0, .int .u64 0, .int .u64 0, .int .u64 0, .int .u64 0, .int .u64 0, .int .u64 0] from parts_zero 9]
  generalize w4.alloc (.cells (parts 9 0 0 0) 45 (0, 0)) = v at *
  obtain ⟨d0, d1, d2, d3, d4, d5, d6, d7, d8, d9, d10, d11, d12, d13⟩ := b10.p14
  obtain ⟨c0, c1, c2, c3, c4, c5, c6, c7, c8, c9, c10, c11, c12, c13⟩ := b4.p14
  obtain ⟨n0, n1, n2, n3, n4, n5, n6, n7, n8, n9, n10, n11, n12, n13⟩ := b4.free14
  simp only [limb_zero] at d0 d1 d2 d3 d4 d5 d6 d7 d8 d9 d10 d11 d12 d13 c0 c1 c2 c3 c4 c5 c6 c7 c8 c9 c10 c11 c12 c13
  replace d0 : v.cell? ⟨w4.heap.size, 0, none⟩ = some (.int .u8 9) := d0
  replace c0 : v.cell? ⟨w.heap.size + 1, 0, none⟩ = some (.int .u8 0) := c0
  obtain ⟨m0, m1, m2, m3, m4, m5⟩ := b9.six
  obtain ⟨k0, k1, k2, k3, k4, k5, k6, k7, k8, k9, k10, k11, k12, k13⟩ := b10.free14
  have B10 := Lib.hid b10
  have B4 := Lib.hid b4
  clear b10 b9 b4 cT cP cF cC
  have HW := Lib.hid hw2
  have NE := Lib.hid nE
  clear hw2 nE
  go_upto_region 18 with (fail)
  have b10 := B10.out.putFr t
  have b4 := B4.out.putFr_other t (Nat.ne_of_lt NE.out)
  have hw := below_putFr HW.out (by have := NE.out; omega : w.heap.size ≤ w4.heap.size) t
  clear B10 B4 HW d0 d1 d2 d3 d4 d5 d6 d7 d8 d9 d10 d11 d12 d13 c0 c1 c2 c3 c4 c5 c6 c7 c8 c9 c10 c11 c12 c13 n0 n1 n2 n3 n4 n5 n6 n7 n8 n9 n10 n11 n12 n13 k0 k1 k2 k3 k4 k5 k6 k7 k8 k9 k10 k11 k12 k13 m0 m1 m2 m3 m4 m5
  change Code.wp _ _ _ _ (putFr v w4.heap.size t)
  generalize putFr v w4.heap.size t = u at *
  obtain ⟨d0, d1, d2, d3, d4, d5, d6, d7, d8, d9, d10, d11, d12, d13⟩ := b10.p14
  obtain ⟨c0, c1, c2, c3, c4, c5, c6, c7, c8, c9, c10, c11, c12, c13⟩ := b4.p14
  obtain ⟨n0, n1, n2, n3, n4, n5, n6, n7, n8, n9, n10, n11, n12, n13⟩ := b4.free14
  simp only [limb_zero] at d0 d1 d2 d3 d4 d5 d6 d7 d8 d9 d10 d11 d12 d13 c0 c1 c2 c3 c4 c5 c6 c7 c8 c9 c10 c11 c12 c13
  replace d0 : u.cell? ⟨w4.heap.size, 0, none⟩ = some (.int .u8 9) := d0
  replace c0 : u.cell? ⟨w.heap.size + 1, 0, none⟩ = some (.int .u8 0) := c0
  clear b10 b4
  have HW := Lib.hid hw
  clear hw
  go_wp2_with fail
  have hb := below_put14 HW.out (by omega : w.heap.size ≤ w.heap.size + 1) 9 0 0 t
  unfold put14 at hb
  simp only [limb_zero] at hb
  exact bodyPost_ret (v := .tuple #[PV 9 0 0 t, .int .i64 0]) v20_ rfl ⟨rfl, hb⟩
open Go.RowKit
/-- A significand stored. -/
def putSig (w : World) (g y : Nat) : World := ((((((w.setCell ⟨g, 1, none⟩ (.int .u64 (limb y 0))).setCell ⟨g, 2, none⟩ (.int .u64 (limb y 1))).setCell ⟨g, 3, none⟩ (.int .u64 (limb y 2))).setCell ⟨g, 4, none⟩ (.int .u64 (limb y 3))).setCell ⟨g, 5, none⟩ (.int .u64 (limb y 4))).setCell ⟨g, 6, none⟩ (.int .u64 (limb y 5)))
theorem Blk.putSig {T : TypeId} {w : World} {g c s : Nat} {x : Int} {f : Nat} (h : Blk T w g (parts c s x f)) (y : Nat) : Blk T (putSig w g y) g (parts c y x f) := by
  unfold Go.Proofs.YtecdpjhifmlahaaDoor.putSig
  exact Blk.cast ((((((h.set 1 _ rfl).set 2 _ rfl).set 3 _ rfl).set 4 _ rfl).set 5 _ rfl).set 6 _ rfl) (by simp [parts])
theorem Blk.putSig_other {T : TypeId} {w : World} {g k : Nat} {cs : Array Value} (h : Blk T w g cs) (y : Nat) (hne : g ≠ k) : Blk T (Go.Proofs.YtecdpjhifmlahaaDoor.putSig w k y) g cs := ((((((h.other _ _ hne).other _ _ hne).other _ _ hne).other _ _ hne).other _ _ hne).other _ _ hne)
theorem below_putSig {B : Nat} {w0 w : World} {g : Nat} (hb : Below B w0 w) (hg : B ≤ g) (y : Nat) : Below B w0 (putSig w g y) := ((((((hb.setCell hg _).setCell hg _).setCell hg _).setCell hg _).setCell hg _).setCell hg _)
set_option maxHeartbeats 3200000 in
theorem kindUnpack_2 (f b e t p : Nat) (em : Int) (neg : Bool) (w : World) (hT : Tab w) (he : e ≤ 32767) (hp : p ≤ 113) (hm1 : -16382 ≤ em) (hm2 : em ≤ 0)
    (cM : ∀ w, Calls Tryd.prog 33 #[.int .u8 f] w fun e' w' => e' = .returned (.int .i64 em) ∧ Below w.heap.size w w')
    (cT : ∀ w, Calls Tryd.prog 29 #[.int .u8 f, BV b] w fun e' w' => e' = .returned (.bool true) ∧ Below w.heap.size w w')
    (cP : ∀ w, Calls Tryd.prog 30 #[.int .u8 f] w fun e' w' => e' = .returned (.int .i64 (p : Nat)) ∧ Below w.heap.size w w')
    (cF : ∀ w, Tab w → Calls Tryd.prog 31 #[.int .u8 f, BV b] w fun e' w' => e' = .returned (.tuple #[.bool neg, .int .i64 (e : Nat), W t]) ∧ Below w.heap.size w w')
    (cC : ∀ w, Tab w → Calls Tryd.prog 32 #[.int .u8 f, BV b] w fun e' w' => e' = .returned (.int .u8 2) ∧ Below w.heap.size w w') :
    Calls Tryd.prog 13 #[.int .u8 f, BV b] w fun e' w' => e' = .returned (.tuple #[PV 2 t ((e : Int) + em - (p : Int) + 1) 0, .int .i64 0]) ∧ Below w.heap.size w w' := by
  have HT := Lib.hid hT
  clear hT
  have he' : (e : Int) ≤ 32767 := by omega
  have he0 : (0 : Int) ≤ (e : Int) := by omega
  have hp' : (p : Int) ≤ 113 := by omega
  have hp0 : (0 : Int) ≤ (p : Int) := by omega
  go_enter Tryd.func13, Tryd.ntmps13
  go_wp2_with fail
  refine (cT _).mono ?_
  rintro e' w1 ⟨rfl, hb1⟩
  go_wp2_with fail
  refine (cP _).mono ?_
  rintro e' w2 ⟨rfl, hb2⟩
  have b4 : Blk 45 w2 (w.heap.size + 1) (parts 0 0 0 0) := by
    rw [parts_zero]
    have := (Blk.new (T := 45) (w.alloc (.cells #[.int .u64 (limb b 1), .int .u64 (limb b 0)] 27 (0, 0))) #[.int .u8 0, .int .u64 0, .int .u64 0, .int .u64 0, .int .u64 0, .int .u64 0, .int .u64 0, .int .i64 0, .int .u64 0, .int .u64 0, .int .u64 0, .int .u64 0, .int .u64 0, .int .u64 0]).below hb1 (by simp)
    have := this.below hb2 this.lt
    simpa using this
  have b3 : Blk 27 w2 w.heap.size #[.int .u64 (limb b 1), .int .u64 (limb b 0)] := by
    have h1 := ((Blk.new (T := 27) w #[.int .u64 (limb b 1), .int .u64 (limb b 0)]).alloc (.cells #[.int .u8 0, .int .u64 0, .int .u64 0, .int .u64 0, .int .u64 0, .int .u64 0, .int .u64 0, .int .i64 0, .int .u64 0, .int .u64 0, .int .u64 0, .int .u64 0, .int .u64 0, .int .u64 0] 45 (0, 0))).below hb1 (by simp <;> omega)
    exact h1.below hb2 h1.lt
  have hw2 := ((((Below.refl w.heap.size w).alloc (Nat.le_refl _) (.cells #[.int .u64 (limb b 1), .int .u64 (limb b 0)] 27 (0, 0))).alloc (by simp) (.cells #[.int .u8 0, .int .u64 0, .int .u64 0, .int .u64 0, .int .u64 0, .int .u64 0, .int .u64 0, .int .i64 0, .int .u64 0, .int .u64 0, .int .u64 0, .int .u64 0, .int .u64 0, .int .u64 0] 45 (0, 0))).trans (hb1.mono (by simp <;> omega))).trans (hb2.mono v17_)
  clear hb1 hb2
  have g0 := b3.cell 0 rfl
  have g1 := b3.cell 1 rfl
  go_wp2_with fail
  refine (cF _ (HT.out.below hw2)).mono ?_
  rintro e' w3 ⟨rfl, hb3⟩
  replace hw2 := (hw2.trans (hb3.mono (Nat.le_of_lt b3.lt))).alloc v18_ (.cells (limbs t) 33 (0, 0))
  replace b4 := (b4.below hb3 b4.lt).alloc (.cells (limbs t) 33 (0, 0))
  replace b3 := (b3.below hb3 b3.lt).alloc (.cells (limbs t) 33 (0, 0))
  have b9 := Blk.new (T := 33) w3 (limbs t)
  clear g0 g1 hb3
  go_upto_region 5 with (fail)
  change Code.wp _ _ _ _ (w3.alloc (.cells (limbs t) 33 (0, 0)))
  generalize w3.alloc (.cells (limbs t) 33 (0, 0)) = v at *
  have g0 := b3.cell 0 rfl
  have g1 := b3.cell 1 rfl
  go_wp2_with fail
  refine (cC _ (HT.out.below hw2)).mono ?_
  rintro e' w4 ⟨rfl, hb4⟩
  replace hw2 := (hw2.trans (hb4.mono (Nat.le_of_lt b3.lt))).alloc v19_ (.cells (parts 2 0 0 0) 45 (0, 0))
  have nE : w.heap.size + 1 < w4.heap.size := (b4.below hb4 b4.lt).lt
  replace b4 := (b4.below hb4 b4.lt).alloc (.cells (parts 2 0 0 0) 45 (0, 0))
  replace b9 := (b9.below hb4 b9.lt).alloc (.cells (parts 2 0 0 0) 45 (0, 0))
  have b10 := Blk.new (T := 45) w4 (parts 2 0 0 0)
  clear g0 g1 hb4 b3
  go_upto_region 6 with (fail)
  rw [← show parts 2 0 0 0 = #[.int .u8 2, .int .u64 0, .int .u64 0, .int .u64 0, .int .u64 0, .int .u64 0, .int .u64 0, .int .i64 0, .int .u64 0, .int .u64 0, .int .u64 0, .int .u64 0, .int .u64 0, .int .u64 0] from parts_zero 2]
  generalize w4.alloc (.cells (parts 2 0 0 0) 45 (0, 0)) = v at *
  obtain ⟨d0, d1, d2, d3, d4, d5, d6, d7, d8, d9, d10, d11, d12, d13⟩ := b10.p14
  obtain ⟨c0, c1, c2, c3, c4, c5, c6, c7, c8, c9, c10, c11, c12, c13⟩ := b4.p14
  obtain ⟨n0, n1, n2, n3, n4, n5, n6, n7, n8, n9, n10, n11, n12, n13⟩ := b4.free14
  simp only [limb_zero] at d0 d1 d2 d3 d4 d5 d6 d7 d8 d9 d10 d11 d12 d13 c0 c1 c2 c3 c4 c5 c6 c7 c8 c9 c10 c11 c12 c13
  replace d0 : v.cell? ⟨w4.heap.size, 0, none⟩ = some (.int .u8 2) := d0
  replace c0 : v.cell? ⟨w.heap.size + 1, 0, none⟩ = some (.int .u8 0) := c0
  obtain ⟨m0, m1, m2, m3, m4, m5⟩ := b9.six
  obtain ⟨k0, k1, k2, k3, k4, k5, k6, k7, k8, k9, k10, k11, k12, k13⟩ := b10.free14
  have B10 := Lib.hid b10
  have B4 := Lib.hid b4
  clear b10 b9 b4 cT cP cF cC
  have HW := Lib.hid hw2
  have NE := Lib.hid nE
  clear hw2 nE
  go_upto_region 17 with (fail)
  have b10 := B10.out.putSig t
  have b4 := B4.out.putSig_other t (Nat.ne_of_lt NE.out)
  have hw := below_putSig HW.out (by have := NE.out; omega : w.heap.size ≤ w4.heap.size) t
  clear B10 B4 HW d0 d1 d2 d3 d4 d5 d6 d7 d8 d9 d10 d11 d12 d13 c0 c1 c2 c3 c4 c5 c6 c7 c8 c9 c10 c11 c12 c13 n0 n1 n2 n3 n4 n5 n6 n7 n8 n9 n10 n11 n12 n13 k0 k1 k2 k3 k4 k5 k6 k7 k8 k9 k10 k11 k12 k13 m0 m1 m2 m3 m4 m5
  change Code.wp _ _ _ _ (putSig v w4.heap.size t)
  generalize putSig v w4.heap.size t = u at *
  have hs := b10.lt
  go_upto_region 18 with (go_at_call 33; refine (cM _).mono ?_; rintro e' w5 ⟨rfl, hb5⟩; have q7 := (b10.below hb5 hs).cell 7 rfl; have y7 := (b10.below hb5 hs).free 7)
  have b10' := ((b10.below hb5 hs).set 7 (.int .i64 ((e : Int) + em - (p : Int) + 1)) rfl).cast (show _ = parts 2 t ((e : Int) + em - (p : Int) + 1) 0 by simp [parts])
  have b4' := (b4.below hb5 b4.lt).other ⟨w4.heap.size, 7, none⟩ (.int .i64 ((e : Int) + em - (p : Int) + 1)) (Nat.ne_of_lt NE.out)
  have hw' := (hw.trans (hb5.mono (by have := NE.out; omega))).setCell (p := ⟨w4.heap.size, 7, none⟩) v21_ (.int .i64 ((e : Int) + em - (p : Int) + 1))
  clear q7 y7 b10 b4 hw hb5 hs
  generalize w5.setCell ⟨w4.heap.size, 7, none⟩ (.int .i64 ((e : Int) + em - (p : Int) + 1)) = u2 at *
  generalize hX : ((e : Int) + em - (p : Int) + 1) = X at *
  have HX := Lib.hid hX
  clear hX
  obtain ⟨d0, d1, d2, d3, d4, d5, d6, d7, d8, d9, d10, d11, d12, d13⟩ := b10'.p14
  obtain ⟨c0, c1, c2, c3, c4, c5, c6, c7, c8, c9, c10, c11, c12, c13⟩ := b4'.p14
  obtain ⟨n0, n1, n2, n3, n4, n5, n6, n7, n8, n9, n10, n11, n12, n13⟩ := b4'.free14
  simp only [limb_zero] at d0 d1 d2 d3 d4 d5 d6 d7 d8 d9 d10 d11 d12 d13 c0 c1 c2 c3 c4 c5 c6 c7 c8 c9 c10 c11 c12 c13
  replace d0 : u2.cell? ⟨w4.heap.size, 0, none⟩ = some (.int .u8 2) := d0
  replace c0 : u2.cell? ⟨w.heap.size + 1, 0, none⟩ = some (.int .u8 0) := c0
  clear b10' b4' he hp hm1 hm2 he' he0 hp' hp0 cM
  have HW := Lib.hid hw'
  clear hw'
  go_wp2_with fail
  have hb := below_put14 HW.out (by omega : w.heap.size ≤ w.heap.size + 1) 2 t X 0
  unfold put14 at hb
  simp only [limb_zero] at hb
  exact bodyPost_ret (v := .tuple #[PV 2 t X 0, .int .i64 0]) v20_ rfl ⟨by rw [HX.out], hb⟩
set_option maxHeartbeats 3200000 in
theorem kindUnpack_5 (f b e t p : Nat) (em : Int) (neg : Bool) (w : World) (hT : Tab w) (he : e ≤ 32767) (hp : p ≤ 113) (hm1 : -16382 ≤ em) (hm2 : em ≤ 0)
    (cM : ∀ w, Calls Tryd.prog 33 #[.int .u8 f] w fun e' w' => e' = .returned (.int .i64 em) ∧ Below w.heap.size w w')
    (cT : ∀ w, Calls Tryd.prog 29 #[.int .u8 f, BV b] w fun e' w' => e' = .returned (.bool true) ∧ Below w.heap.size w w')
    (cP : ∀ w, Calls Tryd.prog 30 #[.int .u8 f] w fun e' w' => e' = .returned (.int .i64 (p : Nat)) ∧ Below w.heap.size w w')
    (cF : ∀ w, Tab w → Calls Tryd.prog 31 #[.int .u8 f, BV b] w fun e' w' => e' = .returned (.tuple #[.bool neg, .int .i64 (e : Nat), W t]) ∧ Below w.heap.size w w')
    (cC : ∀ w, Tab w → Calls Tryd.prog 32 #[.int .u8 f, BV b] w fun e' w' => e' = .returned (.int .u8 5) ∧ Below w.heap.size w w') :
    Calls Tryd.prog 13 #[.int .u8 f, BV b] w fun e' w' => e' = .returned (.tuple #[PV 5 t ((e : Int) + em - (p : Int) + 1) 0, .int .i64 0]) ∧ Below w.heap.size w w' := by
  have HT := Lib.hid hT
  clear hT
  have he' : (e : Int) ≤ 32767 := by omega
  have he0 : (0 : Int) ≤ (e : Int) := by omega
  have hp' : (p : Int) ≤ 113 := by omega
  have hp0 : (0 : Int) ≤ (p : Int) := by omega
  go_enter Tryd.func13, Tryd.ntmps13
  go_wp2_with fail
  refine (cT _).mono ?_
  rintro e' w1 ⟨rfl, hb1⟩
  go_wp2_with fail
  refine (cP _).mono ?_
  rintro e' w2 ⟨rfl, hb2⟩
  have b4 : Blk 45 w2 (w.heap.size + 1) (parts 0 0 0 0) := by
    rw [parts_zero]
    have := (Blk.new (T := 45) (w.alloc (.cells #[.int .u64 (limb b 1), .int .u64 (limb b 0)] 27 (0, 0))) #[.int .u8 0, .int .u64 0, .int .u64 0, .int .u64 0, .int .u64 0, .int .u64 0, .int .u64 0, .int .i64 0, .int .u64 0, .int .u64 0, .int .u64 0, .int .u64 0, .int .u64 0, .int .u64 0]).below hb1 (by simp)
    have := this.below hb2 this.lt
    simpa using this
  have b3 : Blk 27 w2 w.heap.size #[.int .u64 (limb b 1), .int .u64 (limb b 0)] := by
    have h1 := ((Blk.new (T := 27) w #[.int .u64 (limb b 1), .int .u64 (limb b 0)]).alloc (.cells #[.int .u8 0, .int .u64 0, .int .u64 0, .int .u64 0, .int .u64 0, .int .u64 0, .int .u64 0, .int .i64 0, .int .u64 0, .int .u64 0, .int .u64 0, .int .u64 0, .int .u64 0, .int .u64 0] 45 (0, 0))).below hb1 (by simp <;> omega)
    exact h1.below hb2 h1.lt
  have hw2 := ((((Below.refl w.heap.size w).alloc (Nat.le_refl _) (.cells #[.int .u64 (limb b 1), .int .u64 (limb b 0)] 27 (0, 0))).alloc (by simp) (.cells #[.int .u8 0, .int .u64 0, .int .u64 0, .int .u64 0, .int .u64 0, .int .u64 0, .int .u64 0, .int .i64 0, .int .u64 0, .int .u64 0, .int .u64 0, .int .u64 0, .int .u64 0, .int .u64 0] 45 (0, 0))).trans (hb1.mono (by simp <;> omega))).trans (hb2.mono v17_)
  clear hb1 hb2
  have g0 := b3.cell 0 rfl
  have g1 := b3.cell 1 rfl
  go_wp2_with fail
  refine (cF _ (HT.out.below hw2)).mono ?_
  rintro e' w3 ⟨rfl, hb3⟩
  replace hw2 := (hw2.trans (hb3.mono (Nat.le_of_lt b3.lt))).alloc v18_ (.cells (limbs t) 33 (0, 0))
  replace b4 := (b4.below hb3 b4.lt).alloc (.cells (limbs t) 33 (0, 0))
  replace b3 := (b3.below hb3 b3.lt).alloc (.cells (limbs t) 33 (0, 0))
  have b9 := Blk.new (T := 33) w3 (limbs t)
  clear g0 g1 hb3
  go_upto_region 5 with (fail)
  change Code.wp _ _ _ _ (w3.alloc (.cells (limbs t) 33 (0, 0)))
  generalize w3.alloc (.cells (limbs t) 33 (0, 0)) = v at *
  have g0 := b3.cell 0 rfl
  have g1 := b3.cell 1 rfl
  go_wp2_with fail
  refine (cC _ (HT.out.below hw2)).mono ?_
  rintro e' w4 ⟨rfl, hb4⟩
  replace hw2 := (hw2.trans (hb4.mono (Nat.le_of_lt b3.lt))).alloc v19_ (.cells (parts 5 0 0 0) 45 (0, 0))
  have nE : w.heap.size + 1 < w4.heap.size := (b4.below hb4 b4.lt).lt
  replace b4 := (b4.below hb4 b4.lt).alloc (.cells (parts 5 0 0 0) 45 (0, 0))
  replace b9 := (b9.below hb4 b9.lt).alloc (.cells (parts 5 0 0 0) 45 (0, 0))
  have b10 := Blk.new (T := 45) w4 (parts 5 0 0 0)
  clear g0 g1 hb4 b3
  go_upto_region 6 with (fail)
  rw [← show parts 5 0 0 0 = #[.int .u8 5, .int .u64 0, .int .u64 0, .int .u64 0, .int .u64 0, .int .u64 0, .int .u64 0, .int .i64 0, .int .u64 0, .int .u64 0, .int .u64 0, .int .u64 0, .int .u64 0, .int .u64 0] from parts_zero 5]
  generalize w4.alloc (.cells (parts 5 0 0 0) 45 (0, 0)) = v at *
  obtain ⟨d0, d1, d2, d3, d4, d5, d6, d7, d8, d9, d10, d11, d12, d13⟩ := b10.p14
  obtain ⟨c0, c1, c2, c3, c4, c5, c6, c7, c8, c9, c10, c11, c12, c13⟩ := b4.p14
  obtain ⟨n0, n1, n2, n3, n4, n5, n6, n7, n8, n9, n10, n11, n12, n13⟩ := b4.free14
  simp only [limb_zero] at d0 d1 d2 d3 d4 d5 d6 d7 d8 d9 d10 d11 d12 d13 c0 c1 c2 c3 c4 c5 c6 c7 c8 c9 c10 c11 c12 c13
  replace d0 : v.cell? ⟨w4.heap.size, 0, none⟩ = some (.int .u8 5) := d0
  replace c0 : v.cell? ⟨w.heap.size + 1, 0, none⟩ = some (.int .u8 0) := c0
  obtain ⟨m0, m1, m2, m3, m4, m5⟩ := b9.six
  obtain ⟨k0, k1, k2, k3, k4, k5, k6, k7, k8, k9, k10, k11, k12, k13⟩ := b10.free14
  have B10 := Lib.hid b10
  have B4 := Lib.hid b4
  clear b10 b9 b4 cT cP cF cC
  have HW := Lib.hid hw2
  have NE := Lib.hid nE
  clear hw2 nE
  go_upto_region 17 with (fail)
  have b10 := B10.out.putSig t
  have b4 := B4.out.putSig_other t (Nat.ne_of_lt NE.out)
  have hw := below_putSig HW.out (by have := NE.out; omega : w.heap.size ≤ w4.heap.size) t
  clear B10 B4 HW d0 d1 d2 d3 d4 d5 d6 d7 d8 d9 d10 d11 d12 d13 c0 c1 c2 c3 c4 c5 c6 c7 c8 c9 c10 c11 c12 c13 n0 n1 n2 n3 n4 n5 n6 n7 n8 n9 n10 n11 n12 n13 k0 k1 k2 k3 k4 k5 k6 k7 k8 k9 k10 k11 k12 k13 m0 m1 m2 m3 m4 m5
  change Code.wp _ _ _ _ (putSig v w4.heap.size t)
  generalize putSig v w4.heap.size t = u at *
  have hs := b10.lt
  go_upto_region 18 with (go_at_call 33; refine (cM _).mono ?_; rintro e' w5 ⟨rfl, hb5⟩; have q7 := (b10.below hb5 hs).cell 7 rfl; have y7 := (b10.below hb5 hs).free 7)
  have b10' := ((b10.below hb5 hs).set 7 (.int .i64 ((e : Int) + em - (p : Int) + 1)) rfl).cast (show _ = parts 5 t ((e : Int) + em - (p : Int) + 1) 0 by simp [parts])
  have b4' := (b4.below hb5 b4.lt).other ⟨w4.heap.size, 7, none⟩ (.int .i64 ((e : Int) + em - (p : Int) + 1)) (Nat.ne_of_lt NE.out)
  have hw' := (hw.trans (hb5.mono (by have := NE.out; omega))).setCell (p := ⟨w4.heap.size, 7, none⟩) v21_ (.int .i64 ((e : Int) + em - (p : Int) + 1))
  clear q7 y7 b10 b4 hw hb5 hs
  generalize w5.setCell ⟨w4.heap.size, 7, none⟩ (.int .i64 ((e : Int) + em - (p : Int) + 1)) = u2 at *
  generalize hX : ((e : Int) + em - (p : Int) + 1) = X at *
  have HX := Lib.hid hX
  clear hX
  obtain ⟨d0, d1, d2, d3, d4, d5, d6, d7, d8, d9, d10, d11, d12, d13⟩ := b10'.p14
  obtain ⟨c0, c1, c2, c3, c4, c5, c6, c7, c8, c9, c10, c11, c12, c13⟩ := b4'.p14
  obtain ⟨n0, n1, n2, n3, n4, n5, n6, n7, n8, n9, n10, n11, n12, n13⟩ := b4'.free14
  simp only [limb_zero] at d0 d1 d2 d3 d4 d5 d6 d7 d8 d9 d10 d11 d12 d13 c0 c1 c2 c3 c4 c5 c6 c7 c8 c9 c10 c11 c12 c13
  replace d0 : u2.cell? ⟨w4.heap.size, 0, none⟩ = some (.int .u8 5) := d0
  replace c0 : u2.cell? ⟨w.heap.size + 1, 0, none⟩ = some (.int .u8 0) := c0
  clear b10' b4' he hp hm1 hm2 he' he0 hp' hp0 cM
  have HW := Lib.hid hw'
  clear hw'
  go_wp2_with fail
  have hb := below_put14 HW.out (by omega : w.heap.size ≤ w.heap.size + 1) 5 t X 0
  unfold put14 at hb
  simp only [limb_zero] at hb
  exact bodyPost_ret (v := .tuple #[PV 5 t X 0, .int .i64 0]) v20_ rfl ⟨by rw [HX.out], hb⟩
open Go.RowKit
set_option maxHeartbeats 3200000 in
theorem kindUnpack_1_0 (f b e t p : Nat) (em : Int) (neg : Bool) (w : World) (hT : Tab w) (s : Nat) (he : e ≤ 32767) (he1 : 1 ≤ e) (hs64 : s < 64) (htq : t < 2 ^ (64 * 0 + s)) (hqi : ((p : Int) - 1) / 64 = 0) (hqs : ((p : Int) - 1) % 64 = (s : Int)) (hp1 : 11 ≤ p) (hp : p ≤ 113) (hm1 : -16382 ≤ em) (hm2 : em ≤ 0)
    (cM : ∀ w, Calls Tryd.prog 33 #[.int .u8 f] w fun e' w' => e' = .returned (.int .i64 em) ∧ Below w.heap.size w w')
    (cT : ∀ w, Calls Tryd.prog 29 #[.int .u8 f, BV b] w fun e' w' => e' = .returned (.bool true) ∧ Below w.heap.size w w')
    (cP : ∀ w, Calls Tryd.prog 30 #[.int .u8 f] w fun e' w' => e' = .returned (.int .i64 (p : Nat)) ∧ Below w.heap.size w w')
    (cF : ∀ w, Tab w → Calls Tryd.prog 31 #[.int .u8 f, BV b] w fun e' w' => e' = .returned (.tuple #[.bool neg, .int .i64 (e : Nat), W t]) ∧ Below w.heap.size w w')
    (cC : ∀ w, Tab w → Calls Tryd.prog 32 #[.int .u8 f, BV b] w fun e' w' => e' = .returned (.int .u8 1) ∧ Below w.heap.size w w') :
    Calls Tryd.prog 13 #[.int .u8 f, BV b] w fun e' w' => e' = .returned (.tuple #[PV 1 (t + 2 ^ (64 * 0 + s)) ((e : Int) - 1 + em - (p : Int) + 1) 0, .int .i64 0]) ∧ Below w.heap.size w w' := by
  have HT := Lib.hid hT
  clear hT
  have he' : (e : Int) ≤ 32767 := by omega
  have he0 : (0 : Int) ≤ (e : Int) := by omega
  have hp' : (p : Int) ≤ 113 := by omega
  have hp0 : (11 : Int) ≤ (p : Int) := by omega
  have he1' : (1 : Int) ≤ (e : Int) := by omega
  have HS := Lib.hid hs64
  have HTQ := Lib.hid htq
  have s64 : (s : Int) < 64 := by omega
  clear htq hs64
  go_enter Tryd.func13, Tryd.ntmps13
  go_wp2_with fail
  refine (cT _).mono ?_
  rintro e' w1 ⟨rfl, hb1⟩
  go_wp2_with fail
  refine (cP _).mono ?_
  rintro e' w2 ⟨rfl, hb2⟩
  have b4 : Blk 45 w2 (w.heap.size + 1) (parts 0 0 0 0) := by
    rw [parts_zero]
    have := (Blk.new (T := 45) (w.alloc (.cells #[.int .u64 (limb b 1), .int .u64 (limb b 0)] 27 (0, 0))) #[.int .u8 0, .int .u64 0, .int .u64 0, .int .u64 0, .int .u64 0, .int .u64 0, .int .u64 0, .int .i64 0, .int .u64 0, .int .u64 0, .int .u64 0, .int .u64 0, .int .u64 0, .int .u64 0]).below hb1 (by simp)
    have := this.below hb2 this.lt
    simpa using this
  have b3 : Blk 27 w2 w.heap.size #[.int .u64 (limb b 1), .int .u64 (limb b 0)] := by
    have h1 := ((Blk.new (T := 27) w #[.int .u64 (limb b 1), .int .u64 (limb b 0)]).alloc (.cells #[.int .u8 0, .int .u64 0, .int .u64 0, .int .u64 0, .int .u64 0, .int .u64 0, .int .u64 0, .int .i64 0, .int .u64 0, .int .u64 0, .int .u64 0, .int .u64 0, .int .u64 0, .int .u64 0] 45 (0, 0))).below hb1 (by simp <;> omega)
    exact h1.below hb2 h1.lt
  have hw2 := ((((Below.refl w.heap.size w).alloc (Nat.le_refl _) (.cells #[.int .u64 (limb b 1), .int .u64 (limb b 0)] 27 (0, 0))).alloc (by simp) (.cells #[.int .u8 0, .int .u64 0, .int .u64 0, .int .u64 0, .int .u64 0, .int .u64 0, .int .u64 0, .int .i64 0, .int .u64 0, .int .u64 0, .int .u64 0, .int .u64 0, .int .u64 0, .int .u64 0] 45 (0, 0))).trans (hb1.mono (by simp <;> omega))).trans (hb2.mono v17_)
  clear hb1 hb2
  have g0 := b3.cell 0 rfl
  have g1 := b3.cell 1 rfl
  go_wp2_with fail
  refine (cF _ (HT.out.below hw2)).mono ?_
  rintro e' w3 ⟨rfl, hb3⟩
  replace hw2 := (hw2.trans (hb3.mono (Nat.le_of_lt b3.lt))).alloc v18_ (.cells (limbs t) 33 (0, 0))
  have l4 := (b4.below hb3 b4.lt).lt
  replace b4 := (b4.below hb3 b4.lt).alloc (.cells (limbs t) 33 (0, 0))
  replace b3 := (b3.below hb3 b3.lt).alloc (.cells (limbs t) 33 (0, 0))
  have b9 := Blk.new (T := 33) w3 (limbs t)
  clear g0 g1 hb3
  go_upto_region 5 with (fail)
  change Code.wp _ _ _ _ (w3.alloc (.cells (limbs t) 33 (0, 0)))
  generalize w3.alloc (.cells (limbs t) 33 (0, 0)) = v at *
  have g0 := b3.cell 0 rfl
  have g1 := b3.cell 1 rfl
  go_wp2_with fail
  refine (cC _ (HT.out.below hw2)).mono ?_
  rintro e' w4 ⟨rfl, hb4⟩
  replace hw2 := (hw2.trans (hb4.mono (Nat.le_of_lt b3.lt))).alloc v19_ (.cells (parts 1 0 0 0) 45 (0, 0))
  have n39 : w3.heap.size < w4.heap.size := (b9.below hb4 b9.lt).lt
  have n94 : w.heap.size + 1 < w3.heap.size := l4
  have nE : w.heap.size + 1 < w4.heap.size := (b4.below hb4 b4.lt).lt
  replace b4 := (b4.below hb4 b4.lt).alloc (.cells (parts 1 0 0 0) 45 (0, 0))
  replace b9 := (b9.below hb4 b9.lt).alloc (.cells (parts 1 0 0 0) 45 (0, 0))
  have b10 := Blk.new (T := 45) w4 (parts 1 0 0 0)
  clear g0 g1 hb4 b3
  go_upto_region 6 with (fail)
  rw [← show parts 1 0 0 0 = #[.int .u8 1, .int .u64 0, .int .u64 0, .int .u64 0, .int .u64 0, .int .u64 0, .int .u64 0, .int .i64 0, .int .u64 0, .int .u64 0, .int .u64 0, .int .u64 0, .int .u64 0, .int .u64 0] from parts_zero 1]
  generalize w4.alloc (.cells (parts 1 0 0 0) 45 (0, 0)) = v at *
  obtain ⟨d0, d1, d2, d3, d4, d5, d6, d7, d8, d9, d10, d11, d12, d13⟩ := b10.p14
  obtain ⟨c0, c1, c2, c3, c4, c5, c6, c7, c8, c9, c10, c11, c12, c13⟩ := b4.p14
  obtain ⟨n0, n1, n2, n3, n4, n5, n6, n7, n8, n9, n10, n11, n12, n13⟩ := b4.free14
  simp only [limb_zero] at d0 d1 d2 d3 d4 d5 d6 d7 d8 d9 d10 d11 d12 d13 c0 c1 c2 c3 c4 c5 c6 c7 c8 c9 c10 c11 c12 c13
  replace d0 : v.cell? ⟨w4.heap.size, 0, none⟩ = some (.int .u8 1) := d0
  replace c0 : v.cell? ⟨w.heap.size + 1, 0, none⟩ = some (.int .u8 0) := c0
  obtain ⟨m0, m1, m2, m3, m4, m5⟩ := b9.six
  obtain ⟨k0, k1, k2, k3, k4, k5, k6, k7, k8, k9, k10, k11, k12, k13⟩ := b10.free14
  have B10 := Lib.hid b10
  have B4 := Lib.hid b4
  have B9 := Lib.hid b9
  obtain ⟨z0, z1, z2, z3, z4, z5⟩ := b9.six_free
  clear b10 b9 b4 cT cP cF cC
  have HW := Lib.hid hw2
  have NE := Lib.hid nE
  have N39 := Lib.hid n39
  have N94 := Lib.hid n94
  clear hw2 nE n39 n94 l4
  go_upto_region 16 with (fail)
  have bT := B9.out.set 0 _ (limbs_top t 0 s HTQ.out HS.out (by decide))
  have bTen := B10.out.other ⟨w3.heap.size, 0, none⟩ (.int .u64 (Go.bits .or .u64 (limb t 0) (IntKind.u64.wrap (2 ^ s)))) (Nat.ne_of_gt N39.out)
  have bFour := B4.out.other ⟨w3.heap.size, 0, none⟩ (.int .u64 (Go.bits .or .u64 (limb t 0) (IntKind.u64.wrap (2 ^ s)))) (Nat.ne_of_lt N94.out)
  have hwT := HW.out.setCell (p := ⟨w3.heap.size, 0, none⟩) (by have := N94.out; show w.heap.size ≤ w3.heap.size; omega) (.int .u64 (Go.bits .or .u64 (limb t 0) (IntKind.u64.wrap (2 ^ s))))
  clear B10 B4 HW B9 HTQ HS N39 N94 d0 d1 d2 d3 d4 d5 d6 d7 d8 d9 d10 d11 d12 d13 c0 c1 c2 c3 c4 c5 c6 c7 c8 c9 c10 c11 c12 c13 n0 n1 n2 n3 n4 n5 n6 n7 n8 n9 n10 n11 n12 n13 k0 k1 k2 k3 k4 k5 k6 k7 k8 k9 k10 k11 k12 k13 m0 m1 m2 m3 m4 m5 z0 z1 z2 z3 z4 z5
  generalize v.setCell ⟨w3.heap.size, 0, none⟩ (.int .u64 (Go.bits .or .u64 (limb t 0) (IntKind.u64.wrap (2 ^ s)))) = x at *
  generalize hT2 : t + 2 ^ (64 * 0 + s) = T at *
  have HT2 := Lib.hid hT2
  have B10 := Lib.hid bTen
  have B4 := Lib.hid bFour
  have HW := Lib.hid hwT
  obtain ⟨m0, m1, m2, m3, m4, m5⟩ := bT.six
  obtain ⟨d0, d1, d2, d3, d4, d5, d6, d7, d8, d9, d10, d11, d12, d13⟩ := bTen.p14
  obtain ⟨k0, k1, k2, k3, k4, k5, k6, k7, k8, k9, k10, k11, k12, k13⟩ := bTen.free14
  obtain ⟨c0, c1, c2, c3, c4, c5, c6, c7, c8, c9, c10, c11, c12, c13⟩ := bFour.p14
  obtain ⟨n0, n1, n2, n3, n4, n5, n6, n7, n8, n9, n10, n11, n12, n13⟩ := bFour.free14
  simp only [limb_zero] at d0 d1 d2 d3 d4 d5 d6 d7 d8 d9 d10 d11 d12 d13
  clear bT bTen bFour hwT hT2 hqi hqs s64
  go_upto_region 17 with (fail)
  have b10 := B10.out.putSig T
  have b4 := B4.out.putSig_other T (Nat.ne_of_lt NE.out)
  have hw := below_putSig HW.out (by have := NE.out; omega : w.heap.size ≤ w4.heap.size) T
  clear B10 B4 HW d0 d1 d2 d3 d4 d5 d6 d7 d8 d9 d10 d11 d12 d13 c0 c1 c2 c3 c4 c5 c6 c7 c8 c9 c10 c11 c12 c13 n0 n1 n2 n3 n4 n5 n6 n7 n8 n9 n10 n11 n12 n13 k0 k1 k2 k3 k4 k5 k6 k7 k8 k9 k10 k11 k12 k13 m0 m1 m2 m3 m4 m5
  change Code.wp _ _ _ _ (putSig x w4.heap.size T)
  generalize putSig x w4.heap.size T = u at *
  have hs := b10.lt
  go_upto_region 18 with (go_at_call 33; refine (cM _).mono ?_; rintro e' w5 ⟨rfl, hb5⟩; have q7 := (b10.below hb5 hs).cell 7 rfl; have y7 := (b10.below hb5 hs).free 7)
  have b10' := ((b10.below hb5 hs).set 7 (.int .i64 ((e : Int) - 1 + em - (p : Int) + 1)) rfl).cast (show _ = parts 1 T ((e : Int) - 1 + em - (p : Int) + 1) 0 by simp [parts])
  have b4' := (b4.below hb5 b4.lt).other ⟨w4.heap.size, 7, none⟩ (.int .i64 ((e : Int) - 1 + em - (p : Int) + 1)) (Nat.ne_of_lt NE.out)
  have hw' := (hw.trans (hb5.mono (by have := NE.out; omega))).setCell (p := ⟨w4.heap.size, 7, none⟩) v21_ (.int .i64 ((e : Int) - 1 + em - (p : Int) + 1))
  clear q7 y7 b10 b4 hw hb5 hs
  generalize w5.setCell ⟨w4.heap.size, 7, none⟩ (.int .i64 ((e : Int) - 1 + em - (p : Int) + 1)) = u2 at *
  generalize hX : ((e : Int) - 1 + em - (p : Int) + 1) = X at *
  have HX := Lib.hid hX
  clear hX
  obtain ⟨d0, d1, d2, d3, d4, d5, d6, d7, d8, d9, d10, d11, d12, d13⟩ := b10'.p14
  obtain ⟨c0, c1, c2, c3, c4, c5, c6, c7, c8, c9, c10, c11, c12, c13⟩ := b4'.p14
  obtain ⟨n0, n1, n2, n3, n4, n5, n6, n7, n8, n9, n10, n11, n12, n13⟩ := b4'.free14
  simp only [limb_zero] at d0 d1 d2 d3 d4 d5 d6 d7 d8 d9 d10 d11 d12 d13 c0 c1 c2 c3 c4 c5 c6 c7 c8 c9 c10 c11 c12 c13
  replace d0 : u2.cell? ⟨w4.heap.size, 0, none⟩ = some (.int .u8 1) := d0
  replace c0 : u2.cell? ⟨w.heap.size + 1, 0, none⟩ = some (.int .u8 0) := c0
  clear b10' b4' he hp hm1 hm2 he' he0 hp' hp0 cM
  have HW := Lib.hid hw'
  clear hw'
  go_wp2_with fail
  have hb := below_put14 HW.out (by omega : w.heap.size ≤ w.heap.size + 1) 1 T X 0
  unfold put14 at hb
  simp only [limb_zero] at hb
  exact bodyPost_ret (v := .tuple #[PV 1 T X 0, .int .i64 0]) v20_ rfl ⟨by rw [HX.out, HT2.out], hb⟩
set_option maxHeartbeats 3200000 in
theorem kindUnpack_6_0 (f b e t p : Nat) (em : Int) (neg : Bool) (w : World) (hT : Tab w) (s : Nat) (he : e ≤ 32767) (he1 : 1 ≤ e) (hs64 : s < 64) (htq : t < 2 ^ (64 * 0 + s)) (hqi : ((p : Int) - 1) / 64 = 0) (hqs : ((p : Int) - 1) % 64 = (s : Int)) (hp1 : 11 ≤ p) (hp : p ≤ 113) (hm1 : -16382 ≤ em) (hm2 : em ≤ 0)
    (cM : ∀ w, Calls Tryd.prog 33 #[.int .u8 f] w fun e' w' => e' = .returned (.int .i64 em) ∧ Below w.heap.size w w')
    (cT : ∀ w, Calls Tryd.prog 29 #[.int .u8 f, BV b] w fun e' w' => e' = .returned (.bool true) ∧ Below w.heap.size w w')
    (cP : ∀ w, Calls Tryd.prog 30 #[.int .u8 f] w fun e' w' => e' = .returned (.int .i64 (p : Nat)) ∧ Below w.heap.size w w')
    (cF : ∀ w, Tab w → Calls Tryd.prog 31 #[.int .u8 f, BV b] w fun e' w' => e' = .returned (.tuple #[.bool neg, .int .i64 (e : Nat), W t]) ∧ Below w.heap.size w w')
    (cC : ∀ w, Tab w → Calls Tryd.prog 32 #[.int .u8 f, BV b] w fun e' w' => e' = .returned (.int .u8 6) ∧ Below w.heap.size w w') :
    Calls Tryd.prog 13 #[.int .u8 f, BV b] w fun e' w' => e' = .returned (.tuple #[PV 6 (t + 2 ^ (64 * 0 + s)) ((e : Int) - 1 + em - (p : Int) + 1) 0, .int .i64 0]) ∧ Below w.heap.size w w' := by
  have HT := Lib.hid hT
  clear hT
  have he' : (e : Int) ≤ 32767 := by omega
  have he0 : (0 : Int) ≤ (e : Int) := by omega
  have hp' : (p : Int) ≤ 113 := by omega
  have hp0 : (11 : Int) ≤ (p : Int) := by omega
  have he1' : (1 : Int) ≤ (e : Int) := by omega
  have HS := Lib.hid hs64
  have HTQ := Lib.hid htq
  have s64 : (s : Int) < 64 := by omega
  clear htq hs64
  go_enter Tryd.func13, Tryd.ntmps13
  go_wp2_with fail
  refine (cT _).mono ?_
  rintro e' w1 ⟨rfl, hb1⟩
  go_wp2_with fail
  refine (cP _).mono ?_
  rintro e' w2 ⟨rfl, hb2⟩
  have b4 : Blk 45 w2 (w.heap.size + 1) (parts 0 0 0 0) := by
    rw [parts_zero]
    have := (Blk.new (T := 45) (w.alloc (.cells #[.int .u64 (limb b 1), .int .u64 (limb b 0)] 27 (0, 0))) #[.int .u8 0, .int .u64 0, .int .u64 0, .int .u64 0, .int .u64 0, .int .u64 0, .int .u64 0, .int .i64 0, .int .u64 0, .int .u64 0, .int .u64 0, .int .u64 0, .int .u64 0, .int .u64 0]).below hb1 (by simp)
    have := this.below hb2 this.lt
    simpa using this
  have b3 : Blk 27 w2 w.heap.size #[.int .u64 (limb b 1), .int .u64 (limb b 0)] := by
    have h1 := ((Blk.new (T := 27) w #[.int .u64 (limb b 1), .int .u64 (limb b 0)]).alloc (.cells #[.int .u8 0, .int .u64 0, .int .u64 0, .int .u64 0, .int .u64 0, .int .u64 0, .int .u64 0, .int .i64 0, .int .u64 0, .int .u64 0, .int .u64 0, .int .u64 0, .int .u64 0, .int .u64 0] 45 (0, 0))).below hb1 (by simp <;> omega)
    exact h1.below hb2 h1.lt
  have hw2 := ((((Below.refl w.heap.size w).alloc (Nat.le_refl _) (.cells #[.int .u64 (limb b 1), .int .u64 (limb b 0)] 27 (0, 0))).alloc (by simp) (.cells #[.int .u8 0, .int .u64 0, .int .u64 0, .int .u64 0, .int .u64 0, .int .u64 0, .int .u64 0, .int .i64 0, .int .u64 0, .int .u64 0, .int .u64 0, .int .u64 0, .int .u64 0, .int .u64 0] 45 (0, 0))).trans (hb1.mono (by simp <;> omega))).trans (hb2.mono v17_)
  clear hb1 hb2
  have g0 := b3.cell 0 rfl
  have g1 := b3.cell 1 rfl
  go_wp2_with fail
  refine (cF _ (HT.out.below hw2)).mono ?_
  rintro e' w3 ⟨rfl, hb3⟩
  replace hw2 := (hw2.trans (hb3.mono (Nat.le_of_lt b3.lt))).alloc v18_ (.cells (limbs t) 33 (0, 0))
  have l4 := (b4.below hb3 b4.lt).lt
  replace b4 := (b4.below hb3 b4.lt).alloc (.cells (limbs t) 33 (0, 0))
  replace b3 := (b3.below hb3 b3.lt).alloc (.cells (limbs t) 33 (0, 0))
  have b9 := Blk.new (T := 33) w3 (limbs t)
  clear g0 g1 hb3
  go_upto_region 5 with (fail)
  change Code.wp _ _ _ _ (w3.alloc (.cells (limbs t) 33 (0, 0)))
  generalize w3.alloc (.cells (limbs t) 33 (0, 0)) = v at *
  have g0 := b3.cell 0 rfl
  have g1 := b3.cell 1 rfl
  go_wp2_with fail
  refine (cC _ (HT.out.below hw2)).mono ?_
  rintro e' w4 ⟨rfl, hb4⟩
  replace hw2 := (hw2.trans (hb4.mono (Nat.le_of_lt b3.lt))).alloc v19_ (.cells (parts 6 0 0 0) 45 (0, 0))
  have n39 : w3.heap.size < w4.heap.size := (b9.below hb4 b9.lt).lt
  have n94 : w.heap.size + 1 < w3.heap.size := l4
  have nE : w.heap.size + 1 < w4.heap.size := (b4.below hb4 b4.lt).lt
  replace b4 := (b4.below hb4 b4.lt).alloc (.cells (parts 6 0 0 0) 45 (0, 0))
  replace b9 := (b9.below hb4 b9.lt).alloc (.cells (parts 6 0 0 0) 45 (0, 0))
  have b10 := Blk.new (T := 45) w4 (parts 6 0 0 0)
  clear g0 g1 hb4 b3
  go_upto_region 6 with (fail)
  rw [← show parts 6 0 0 0 = #[.int .u8 6, .int .u64 0, .int .u64 0, .int .u64 0, .int .u64 0, .int .u64 0, .int .u64 0, .int .i64 0, .int .u64 0, .int .u64 0, .int .u64 0, .int .u64 0, .int .u64 0, .int .u64 0] from parts_zero 6]
  generalize w4.alloc (.cells (parts 6 0 0 0) 45 (0, 0)) = v at *
  obtain ⟨d0, d1, d2, d3, d4, d5, d6, d7, d8, d9, d10, d11, d12, d13⟩ := b10.p14
  obtain ⟨c0, c1, c2, c3, c4, c5, c6, c7, c8, c9, c10, c11, c12, c13⟩ := b4.p14
  obtain ⟨n0, n1, n2, n3, n4, n5, n6, n7, n8, n9, n10, n11, n12, n13⟩ := b4.free14
  simp only [limb_zero] at d0 d1 d2 d3 d4 d5 d6 d7 d8 d9 d10 d11 d12 d13 c0 c1 c2 c3 c4 c5 c6 c7 c8 c9 c10 c11 c12 c13
  replace d0 : v.cell? ⟨w4.heap.size, 0, none⟩ = some (.int .u8 6) := d0
  replace c0 : v.cell? ⟨w.heap.size + 1, 0, none⟩ = some (.int .u8 0) := c0
  obtain ⟨m0, m1, m2, m3, m4, m5⟩ := b9.six
  obtain ⟨k0, k1, k2, k3, k4, k5, k6, k7, k8, k9, k10, k11, k12, k13⟩ := b10.free14
  have B10 := Lib.hid b10
  have B4 := Lib.hid b4
  have B9 := Lib.hid b9
  obtain ⟨z0, z1, z2, z3, z4, z5⟩ := b9.six_free
  clear b10 b9 b4 cT cP cF cC
  have HW := Lib.hid hw2
  have NE := Lib.hid nE
  have N39 := Lib.hid n39
  have N94 := Lib.hid n94
  clear hw2 nE n39 n94 l4
  go_upto_region 16 with (fail)
  have bT := B9.out.set 0 _ (limbs_top t 0 s HTQ.out HS.out (by decide))
  have bTen := B10.out.other ⟨w3.heap.size, 0, none⟩ (.int .u64 (Go.bits .or .u64 (limb t 0) (IntKind.u64.wrap (2 ^ s)))) (Nat.ne_of_gt N39.out)
  have bFour := B4.out.other ⟨w3.heap.size, 0, none⟩ (.int .u64 (Go.bits .or .u64 (limb t 0) (IntKind.u64.wrap (2 ^ s)))) (Nat.ne_of_lt N94.out)
  have hwT := HW.out.setCell (p := ⟨w3.heap.size, 0, none⟩) (by have := N94.out; show w.heap.size ≤ w3.heap.size; omega) (.int .u64 (Go.bits .or .u64 (limb t 0) (IntKind.u64.wrap (2 ^ s))))
  clear B10 B4 HW B9 HTQ HS N39 N94 d0 d1 d2 d3 d4 d5 d6 d7 d8 d9 d10 d11 d12 d13 c0 c1 c2 c3 c4 c5 c6 c7 c8 c9 c10 c11 c12 c13 n0 n1 n2 n3 n4 n5 n6 n7 n8 n9 n10 n11 n12 n13 k0 k1 k2 k3 k4 k5 k6 k7 k8 k9 k10 k11 k12 k13 m0 m1 m2 m3 m4 m5 z0 z1 z2 z3 z4 z5
  generalize v.setCell ⟨w3.heap.size, 0, none⟩ (.int .u64 (Go.bits .or .u64 (limb t 0) (IntKind.u64.wrap (2 ^ s)))) = x at *
  generalize hT2 : t + 2 ^ (64 * 0 + s) = T at *
  have HT2 := Lib.hid hT2
  have B10 := Lib.hid bTen
  have B4 := Lib.hid bFour
  have HW := Lib.hid hwT
  obtain ⟨m0, m1, m2, m3, m4, m5⟩ := bT.six
  obtain ⟨d0, d1, d2, d3, d4, d5, d6, d7, d8, d9, d10, d11, d12, d13⟩ := bTen.p14
  obtain ⟨k0, k1, k2, k3, k4, k5, k6, k7, k8, k9, k10, k11, k12, k13⟩ := bTen.free14
  obtain ⟨c0, c1, c2, c3, c4, c5, c6, c7, c8, c9, c10, c11, c12, c13⟩ := bFour.p14
  obtain ⟨n0, n1, n2, n3, n4, n5, n6, n7, n8, n9, n10, n11, n12, n13⟩ := bFour.free14
  simp only [limb_zero] at d0 d1 d2 d3 d4 d5 d6 d7 d8 d9 d10 d11 d12 d13
  clear bT bTen bFour hwT hT2 hqi hqs s64
  go_upto_region 17 with (fail)
  have b10 := B10.out.putSig T
  have b4 := B4.out.putSig_other T (Nat.ne_of_lt NE.out)
  have hw := below_putSig HW.out (by have := NE.out; omega : w.heap.size ≤ w4.heap.size) T
  clear B10 B4 HW d0 d1 d2 d3 d4 d5 d6 d7 d8 d9 d10 d11 d12 d13 c0 c1 c2 c3 c4 c5 c6 c7 c8 c9 c10 c11 c12 c13 n0 n1 n2 n3 n4 n5 n6 n7 n8 n9 n10 n11 n12 n13 k0 k1 k2 k3 k4 k5 k6 k7 k8 k9 k10 k11 k12 k13 m0 m1 m2 m3 m4 m5
  change Code.wp _ _ _ _ (putSig x w4.heap.size T)
  generalize putSig x w4.heap.size T = u at *
  have hs := b10.lt
  go_upto_region 18 with (go_at_call 33; refine (cM _).mono ?_; rintro e' w5 ⟨rfl, hb5⟩; have q7 := (b10.below hb5 hs).cell 7 rfl; have y7 := (b10.below hb5 hs).free 7)
  have b10' := ((b10.below hb5 hs).set 7 (.int .i64 ((e : Int) - 1 + em - (p : Int) + 1)) rfl).cast (show _ = parts 6 T ((e : Int) - 1 + em - (p : Int) + 1) 0 by simp [parts])
  have b4' := (b4.below hb5 b4.lt).other ⟨w4.heap.size, 7, none⟩ (.int .i64 ((e : Int) - 1 + em - (p : Int) + 1)) (Nat.ne_of_lt NE.out)
  have hw' := (hw.trans (hb5.mono (by have := NE.out; omega))).setCell (p := ⟨w4.heap.size, 7, none⟩) v21_ (.int .i64 ((e : Int) - 1 + em - (p : Int) + 1))
  clear q7 y7 b10 b4 hw hb5 hs
  generalize w5.setCell ⟨w4.heap.size, 7, none⟩ (.int .i64 ((e : Int) - 1 + em - (p : Int) + 1)) = u2 at *
  generalize hX : ((e : Int) - 1 + em - (p : Int) + 1) = X at *
  have HX := Lib.hid hX
  clear hX
  obtain ⟨d0, d1, d2, d3, d4, d5, d6, d7, d8, d9, d10, d11, d12, d13⟩ := b10'.p14
  obtain ⟨c0, c1, c2, c3, c4, c5, c6, c7, c8, c9, c10, c11, c12, c13⟩ := b4'.p14
  obtain ⟨n0, n1, n2, n3, n4, n5, n6, n7, n8, n9, n10, n11, n12, n13⟩ := b4'.free14
  simp only [limb_zero] at d0 d1 d2 d3 d4 d5 d6 d7 d8 d9 d10 d11 d12 d13 c0 c1 c2 c3 c4 c5 c6 c7 c8 c9 c10 c11 c12 c13
  replace d0 : u2.cell? ⟨w4.heap.size, 0, none⟩ = some (.int .u8 6) := d0
  replace c0 : u2.cell? ⟨w.heap.size + 1, 0, none⟩ = some (.int .u8 0) := c0
  clear b10' b4' he hp hm1 hm2 he' he0 hp' hp0 cM
  have HW := Lib.hid hw'
  clear hw'
  go_wp2_with fail
  have hb := below_put14 HW.out (by omega : w.heap.size ≤ w.heap.size + 1) 6 T X 0
  unfold put14 at hb
  simp only [limb_zero] at hb
  exact bodyPost_ret (v := .tuple #[PV 6 T X 0, .int .i64 0]) v20_ rfl ⟨by rw [HX.out, HT2.out], hb⟩
open Go.RowKit
set_option maxHeartbeats 3200000 in
theorem kindUnpack_1_1 (f b e t p : Nat) (em : Int) (neg : Bool) (w : World) (hT : Tab w) (s : Nat) (he : e ≤ 32767) (he1 : 1 ≤ e) (hs64 : s < 64) (htq : t < 2 ^ (64 * 1 + s)) (hqi : ((p : Int) - 1) / 64 = 1) (hqs : ((p : Int) - 1) % 64 = (s : Int)) (hp1 : 11 ≤ p) (hp : p ≤ 113) (hm1 : -16382 ≤ em) (hm2 : em ≤ 0)
    (cM : ∀ w, Calls Tryd.prog 33 #[.int .u8 f] w fun e' w' => e' = .returned (.int .i64 em) ∧ Below w.heap.size w w')
    (cT : ∀ w, Calls Tryd.prog 29 #[.int .u8 f, BV b] w fun e' w' => e' = .returned (.bool true) ∧ Below w.heap.size w w')
    (cP : ∀ w, Calls Tryd.prog 30 #[.int .u8 f] w fun e' w' => e' = .returned (.int .i64 (p : Nat)) ∧ Below w.heap.size w w')
    (cF : ∀ w, Tab w → Calls Tryd.prog 31 #[.int .u8 f, BV b] w fun e' w' => e' = .returned (.tuple #[.bool neg, .int .i64 (e : Nat), W t]) ∧ Below w.heap.size w w')
    (cC : ∀ w, Tab w → Calls Tryd.prog 32 #[.int .u8 f, BV b] w fun e' w' => e' = .returned (.int .u8 1) ∧ Below w.heap.size w w') :
    Calls Tryd.prog 13 #[.int .u8 f, BV b] w fun e' w' => e' = .returned (.tuple #[PV 1 (t + 2 ^ (64 * 1 + s)) ((e : Int) - 1 + em - (p : Int) + 1) 0, .int .i64 0]) ∧ Below w.heap.size w w' := by
  have HT := Lib.hid hT
  clear hT
  have he' : (e : Int) ≤ 32767 := by omega
  have he0 : (0 : Int) ≤ (e : Int) := by omega
  have hp' : (p : Int) ≤ 113 := by omega
  have hp0 : (11 : Int) ≤ (p : Int) := by omega
  have he1' : (1 : Int) ≤ (e : Int) := by omega
  have HS := Lib.hid hs64
  have HTQ := Lib.hid htq
  have s64 : (s : Int) < 64 := by omega
  clear htq hs64
  go_enter Tryd.func13, Tryd.ntmps13
  go_wp2_with fail
  refine (cT _).mono ?_
  rintro e' w1 ⟨rfl, hb1⟩
  go_wp2_with fail
  refine (cP _).mono ?_
  rintro e' w2 ⟨rfl, hb2⟩
  have b4 : Blk 45 w2 (w.heap.size + 1) (parts 0 0 0 0) := by
    rw [parts_zero]
    have := (Blk.new (T := 45) (w.alloc (.cells #[.int .u64 (limb b 1), .int .u64 (limb b 0)] 27 (0, 0))) #[.int .u8 0, .int .u64 0, .int .u64 0, .int .u64 0, .int .u64 0, .int .u64 0, .int .u64 0, .int .i64 0, .int .u64 0, .int .u64 0, .int .u64 0, .int .u64 0, .int .u64 0, .int .u64 0]).below hb1 (by simp)
    have := this.below hb2 this.lt
    simpa using this
  have b3 : Blk 27 w2 w.heap.size #[.int .u64 (limb b 1), .int .u64 (limb b 0)] := by
    have h1 := ((Blk.new (T := 27) w #[.int .u64 (limb b 1), .int .u64 (limb b 0)]).alloc (.cells #[.int .u8 0, .int .u64 0, .int .u64 0, .int .u64 0, .int .u64 0, .int .u64 0, .int .u64 0, .int .i64 0, .int .u64 0, .int .u64 0, .int .u64 0, .int .u64 0, .int .u64 0, .int .u64 0] 45 (0, 0))).below hb1 (by simp <;> omega)
    exact h1.below hb2 h1.lt
  have hw2 := ((((Below.refl w.heap.size w).alloc (Nat.le_refl _) (.cells #[.int .u64 (limb b 1), .int .u64 (limb b 0)] 27 (0, 0))).alloc (by simp) (.cells #[.int .u8 0, .int .u64 0, .int .u64 0, .int .u64 0, .int .u64 0, .int .u64 0, .int .u64 0, .int .i64 0, .int .u64 0, .int .u64 0, .int .u64 0, .int .u64 0, .int .u64 0, .int .u64 0] 45 (0, 0))).trans (hb1.mono (by simp <;> omega))).trans (hb2.mono v17_)
  clear hb1 hb2
  have g0 := b3.cell 0 rfl
  have g1 := b3.cell 1 rfl
  go_wp2_with fail
  refine (cF _ (HT.out.below hw2)).mono ?_
  rintro e' w3 ⟨rfl, hb3⟩
  replace hw2 := (hw2.trans (hb3.mono (Nat.le_of_lt b3.lt))).alloc v18_ (.cells (limbs t) 33 (0, 0))
  have l4 := (b4.below hb3 b4.lt).lt
  replace b4 := (b4.below hb3 b4.lt).alloc (.cells (limbs t) 33 (0, 0))
  replace b3 := (b3.below hb3 b3.lt).alloc (.cells (limbs t) 33 (0, 0))
  have b9 := Blk.new (T := 33) w3 (limbs t)
  clear g0 g1 hb3
  go_upto_region 5 with (fail)
  change Code.wp _ _ _ _ (w3.alloc (.cells (limbs t) 33 (0, 0)))
  generalize w3.alloc (.cells (limbs t) 33 (0, 0)) = v at *
  have g0 := b3.cell 0 rfl
  have g1 := b3.cell 1 rfl
  go_wp2_with fail
  refine (cC _ (HT.out.below hw2)).mono ?_
  rintro e' w4 ⟨rfl, hb4⟩
  replace hw2 := (hw2.trans (hb4.mono (Nat.le_of_lt b3.lt))).alloc v19_ (.cells (parts 1 0 0 0) 45 (0, 0))
  have n39 : w3.heap.size < w4.heap.size := (b9.below hb4 b9.lt).lt
  have n94 : w.heap.size + 1 < w3.heap.size := l4
  have nE : w.heap.size + 1 < w4.heap.size := (b4.below hb4 b4.lt).lt
  replace b4 := (b4.below hb4 b4.lt).alloc (.cells (parts 1 0 0 0) 45 (0, 0))
  replace b9 := (b9.below hb4 b9.lt).alloc (.cells (parts 1 0 0 0) 45 (0, 0))
  have b10 := Blk.new (T := 45) w4 (parts 1 0 0 0)
  clear g0 g1 hb4 b3
  go_upto_region 6 with (fail)
  rw [← show parts 1 0 0 0 = #[.int .u8 1, .int .u64 0, .int .u64 0, .int .u64 0, .int .u64 0, .int .u64 0, .int .u64 0, .int .i64 0, .int .u64 0, .int .u64 0, .int .u64 0, .int .u64 0, .int .u64 0, .int .u64 0] from parts_zero 1]
  generalize w4.alloc (.cells (parts 1 0 0 0) 45 (0, 0)) = v at *
  obtain ⟨d0, d1, d2, d3, d4, d5, d6, d7, d8, d9, d10, d11, d12, d13⟩ := b10.p14
  obtain ⟨c0, c1, c2, c3, c4, c5, c6, c7, c8, c9, c10, c11, c12, c13⟩ := b4.p14
  obtain ⟨n0, n1, n2, n3, n4, n5, n6, n7, n8, n9, n10, n11, n12, n13⟩ := b4.free14
  simp only [limb_zero] at d0 d1 d2 d3 d4 d5 d6 d7 d8 d9 d10 d11 d12 d13 c0 c1 c2 c3 c4 c5 c6 c7 c8 c9 c10 c11 c12 c13
  replace d0 : v.cell? ⟨w4.heap.size, 0, none⟩ = some (.int .u8 1) := d0
  replace c0 : v.cell? ⟨w.heap.size + 1, 0, none⟩ = some (.int .u8 0) := c0
  obtain ⟨m0, m1, m2, m3, m4, m5⟩ := b9.six
  obtain ⟨k0, k1, k2, k3, k4, k5, k6, k7, k8, k9, k10, k11, k12, k13⟩ := b10.free14
  have B10 := Lib.hid b10
  have B4 := Lib.hid b4
  have B9 := Lib.hid b9
  obtain ⟨z0, z1, z2, z3, z4, z5⟩ := b9.six_free
  clear b10 b9 b4 cT cP cF cC
  have HW := Lib.hid hw2
  have NE := Lib.hid nE
  have N39 := Lib.hid n39
  have N94 := Lib.hid n94
  clear hw2 nE n39 n94 l4
  go_upto_region 16 with (fail)
  have bT := B9.out.set 1 _ (limbs_top t 1 s HTQ.out HS.out (by decide))
  have bTen := B10.out.other ⟨w3.heap.size, 1, none⟩ (.int .u64 (Go.bits .or .u64 (limb t 1) (IntKind.u64.wrap (2 ^ s)))) (Nat.ne_of_gt N39.out)
  have bFour := B4.out.other ⟨w3.heap.size, 1, none⟩ (.int .u64 (Go.bits .or .u64 (limb t 1) (IntKind.u64.wrap (2 ^ s)))) (Nat.ne_of_lt N94.out)
  have hwT := HW.out.setCell (p := ⟨w3.heap.size, 1, none⟩) (by have := N94.out; show w.heap.size ≤ w3.heap.size; omega) (.int .u64 (Go.bits .or .u64 (limb t 1) (IntKind.u64.wrap (2 ^ s))))
  clear B10 B4 HW B9 HTQ HS N39 N94 d0 d1 d2 d3 d4 d5 d6 d7 d8 d9 d10 d11 d12 d13 c0 c1 c2 c3 c4 c5 c6 c7 c8 c9 c10 c11 c12 c13 n0 n1 n2 n3 n4 n5 n6 n7 n8 n9 n10 n11 n12 n13 k0 k1 k2 k3 k4 k5 k6 k7 k8 k9 k10 k11 k12 k13 m0 m1 m2 m3 m4 m5 z0 z1 z2 z3 z4 z5
  generalize v.setCell ⟨w3.heap.size, 1, none⟩ (.int .u64 (Go.bits .or .u64 (limb t 1) (IntKind.u64.wrap (2 ^ s)))) = x at *
  generalize hT2 : t + 2 ^ (64 * 1 + s) = T at *
  have HT2 := Lib.hid hT2
  have B10 := Lib.hid bTen
  have B4 := Lib.hid bFour
  have HW := Lib.hid hwT
  obtain ⟨m0, m1, m2, m3, m4, m5⟩ := bT.six
  obtain ⟨d0, d1, d2, d3, d4, d5, d6, d7, d8, d9, d10, d11, d12, d13⟩ := bTen.p14
  obtain ⟨k0, k1, k2, k3, k4, k5, k6, k7, k8, k9, k10, k11, k12, k13⟩ := bTen.free14
  obtain ⟨c0, c1, c2, c3, c4, c5, c6, c7, c8, c9, c10, c11, c12, c13⟩ := bFour.p14
  obtain ⟨n0, n1, n2, n3, n4, n5, n6, n7, n8, n9, n10, n11, n12, n13⟩ := bFour.free14
  simp only [limb_zero] at d0 d1 d2 d3 d4 d5 d6 d7 d8 d9 d10 d11 d12 d13
  clear bT bTen bFour hwT hT2 hqi hqs s64
  go_upto_region 17 with (fail)
  have b10 := B10.out.putSig T
  have b4 := B4.out.putSig_other T (Nat.ne_of_lt NE.out)
  have hw := below_putSig HW.out (by have := NE.out; omega : w.heap.size ≤ w4.heap.size) T
  clear B10 B4 HW d0 d1 d2 d3 d4 d5 d6 d7 d8 d9 d10 d11 d12 d13 c0 c1 c2 c3 c4 c5 c6 c7 c8 c9 c10 c11 c12 c13 n0 n1 n2 n3 n4 n5 n6 n7 n8 n9 n10 n11 n12 n13 k0 k1 k2 k3 k4 k5 k6 k7 k8 k9 k10 k11 k12 k13 m0 m1 m2 m3 m4 m5
  change Code.wp _ _ _ _ (putSig x w4.heap.size T)
  generalize putSig x w4.heap.size T = u at *
  have hs := b10.lt
  go_upto_region 18 with (go_at_call 33; refine (cM _).mono ?_; rintro e' w5 ⟨rfl, hb5⟩; have q7 := (b10.below hb5 hs).cell 7 rfl; have y7 := (b10.below hb5 hs).free 7)
  have b10' := ((b10.below hb5 hs).set 7 (.int .i64 ((e : Int) - 1 + em - (p : Int) + 1)) rfl).cast (show _ = parts 1 T ((e : Int) - 1 + em - (p : Int) + 1) 0 by simp [parts])
  have b4' := (b4.below hb5 b4.lt).other ⟨w4.heap.size, 7, none⟩ (.int .i64 ((e : Int) - 1 + em - (p : Int) + 1)) (Nat.ne_of_lt NE.out)
  have hw' := (hw.trans (hb5.mono (by have := NE.out; omega))).setCell (p := ⟨w4.heap.size, 7, none⟩) v21_ (.int .i64 ((e : Int) - 1 + em - (p : Int) + 1))
  clear q7 y7 b10 b4 hw hb5 hs
  generalize w5.setCell ⟨w4.heap.size, 7, none⟩ (.int .i64 ((e : Int) - 1 + em - (p : Int) + 1)) = u2 at *
  generalize hX : ((e : Int) - 1 + em - (p : Int) + 1) = X at *
  have HX := Lib.hid hX
  clear hX
  obtain ⟨d0, d1, d2, d3, d4, d5, d6, d7, d8, d9, d10, d11, d12, d13⟩ := b10'.p14
  obtain ⟨c0, c1, c2, c3, c4, c5, c6, c7, c8, c9, c10, c11, c12, c13⟩ := b4'.p14
  obtain ⟨n0, n1, n2, n3, n4, n5, n6, n7, n8, n9, n10, n11, n12, n13⟩ := b4'.free14
  simp only [limb_zero] at d0 d1 d2 d3 d4 d5 d6 d7 d8 d9 d10 d11 d12 d13 c0 c1 c2 c3 c4 c5 c6 c7 c8 c9 c10 c11 c12 c13
  replace d0 : u2.cell? ⟨w4.heap.size, 0, none⟩ = some (.int .u8 1) := d0
  replace c0 : u2.cell? ⟨w.heap.size + 1, 0, none⟩ = some (.int .u8 0) := c0
  clear b10' b4' he hp hm1 hm2 he' he0 hp' hp0 cM
  have HW := Lib.hid hw'
  clear hw'
  go_wp2_with fail
  have hb := below_put14 HW.out (by omega : w.heap.size ≤ w.heap.size + 1) 1 T X 0
  unfold put14 at hb
  simp only [limb_zero] at hb
  exact bodyPost_ret (v := .tuple #[PV 1 T X 0, .int .i64 0]) v20_ rfl ⟨by rw [HX.out, HT2.out], hb⟩
set_option maxHeartbeats 3200000 in
theorem kindUnpack_6_1 (f b e t p : Nat) (em : Int) (neg : Bool) (w : World) (hT : Tab w) (s : Nat) (he : e ≤ 32767) (he1 : 1 ≤ e) (hs64 : s < 64) (htq : t < 2 ^ (64 * 1 + s)) (hqi : ((p : Int) - 1) / 64 = 1) (hqs : ((p : Int) - 1) % 64 = (s : Int)) (hp1 : 11 ≤ p) (hp : p ≤ 113) (hm1 : -16382 ≤ em) (hm2 : em ≤ 0)
    (cM : ∀ w, Calls Tryd.prog 33 #[.int .u8 f] w fun e' w' => e' = .returned (.int .i64 em) ∧ Below w.heap.size w w')
    (cT : ∀ w, Calls Tryd.prog 29 #[.int .u8 f, BV b] w fun e' w' => e' = .returned (.bool true) ∧ Below w.heap.size w w')
    (cP : ∀ w, Calls Tryd.prog 30 #[.int .u8 f] w fun e' w' => e' = .returned (.int .i64 (p : Nat)) ∧ Below w.heap.size w w')
    (cF : ∀ w, Tab w → Calls Tryd.prog 31 #[.int .u8 f, BV b] w fun e' w' => e' = .returned (.tuple #[.bool neg, .int .i64 (e : Nat), W t]) ∧ Below w.heap.size w w')
    (cC : ∀ w, Tab w → Calls Tryd.prog 32 #[.int .u8 f, BV b] w fun e' w' => e' = .returned (.int .u8 6) ∧ Below w.heap.size w w') :
    Calls Tryd.prog 13 #[.int .u8 f, BV b] w fun e' w' => e' = .returned (.tuple #[PV 6 (t + 2 ^ (64 * 1 + s)) ((e : Int) - 1 + em - (p : Int) + 1) 0, .int .i64 0]) ∧ Below w.heap.size w w' := by
  have HT := Lib.hid hT
  clear hT
  have he' : (e : Int) ≤ 32767 := by omega
  have he0 : (0 : Int) ≤ (e : Int) := by omega
  have hp' : (p : Int) ≤ 113 := by omega
  have hp0 : (11 : Int) ≤ (p : Int) := by omega
  have he1' : (1 : Int) ≤ (e : Int) := by omega
  have HS := Lib.hid hs64
  have HTQ := Lib.hid htq
  have s64 : (s : Int) < 64 := by omega
  clear htq hs64
  go_enter Tryd.func13, Tryd.ntmps13
  go_wp2_with fail
  refine (cT _).mono ?_
  rintro e' w1 ⟨rfl, hb1⟩
  go_wp2_with fail
  refine (cP _).mono ?_
  rintro e' w2 ⟨rfl, hb2⟩
  have b4 : Blk 45 w2 (w.heap.size + 1) (parts 0 0 0 0) := by
    rw [parts_zero]
    have := (Blk.new (T := 45) (w.alloc (.cells #[.int .u64 (limb b 1), .int .u64 (limb b 0)] 27 (0, 0))) #[.int .u8 0, .int .u64 0, .int .u64 0, .int .u64 0, .int .u64 0, .int .u64 0, .int .u64 0, .int .i64 0, .int .u64 0, .int .u64 0, .int .u64 0, .int .u64 0, .int .u64 0, .int .u64 0]).below hb1 (by simp)
    have := this.below hb2 this.lt
    simpa using this
  have b3 : Blk 27 w2 w.heap.size #[.int .u64 (limb b 1), .int .u64 (limb b 0)] := by
    have h1 := ((Blk.new (T := 27) w #[.int .u64 (limb b 1), .int .u64 (limb b 0)]).alloc (.cells #[.int .u8 0, .int .u64 0, .int .u64 0, .int .u64 0, .int .u64 0, .int .u64 0, .int .u64 0, .int .i64 0, .int .u64 0, .int .u64 0, .int .u64 0, .int .u64 0, .int .u64 0, .int .u64 0] 45 (0, 0))).below hb1 (by simp <;> omega)
    exact h1.below hb2 h1.lt
  have hw2 := ((((Below.refl w.heap.size w).alloc (Nat.le_refl _) (.cells #[.int .u64 (limb b 1), .int .u64 (limb b 0)] 27 (0, 0))).alloc (by simp) (.cells #[.int .u8 0, .int .u64 0, .int .u64 0, .int .u64 0, .int .u64 0, .int .u64 0, .int .u64 0, .int .i64 0, .int .u64 0, .int .u64 0, .int .u64 0, .int .u64 0, .int .u64 0, .int .u64 0] 45 (0, 0))).trans (hb1.mono (by simp <;> omega))).trans (hb2.mono v17_)
  clear hb1 hb2
  have g0 := b3.cell 0 rfl
  have g1 := b3.cell 1 rfl
  go_wp2_with fail
  refine (cF _ (HT.out.below hw2)).mono ?_
  rintro e' w3 ⟨rfl, hb3⟩
  replace hw2 := (hw2.trans (hb3.mono (Nat.le_of_lt b3.lt))).alloc v18_ (.cells (limbs t) 33 (0, 0))
  have l4 := (b4.below hb3 b4.lt).lt
  replace b4 := (b4.below hb3 b4.lt).alloc (.cells (limbs t) 33 (0, 0))
  replace b3 := (b3.below hb3 b3.lt).alloc (.cells (limbs t) 33 (0, 0))
  have b9 := Blk.new (T := 33) w3 (limbs t)
  clear g0 g1 hb3
  go_upto_region 5 with (fail)
  change Code.wp _ _ _ _ (w3.alloc (.cells (limbs t) 33 (0, 0)))
  generalize w3.alloc (.cells (limbs t) 33 (0, 0)) = v at *
  have g0 := b3.cell 0 rfl
  have g1 := b3.cell 1 rfl
  go_wp2_with fail
  refine (cC _ (HT.out.below hw2)).mono ?_
  rintro e' w4 ⟨rfl, hb4⟩
  replace hw2 := (hw2.trans (hb4.mono (Nat.le_of_lt b3.lt))).alloc v19_ (.cells (parts 6 0 0 0) 45 (0, 0))
  have n39 : w3.heap.size < w4.heap.size := (b9.below hb4 b9.lt).lt
  have n94 : w.heap.size + 1 < w3.heap.size := l4
  have nE : w.heap.size + 1 < w4.heap.size := (b4.below hb4 b4.lt).lt
  replace b4 := (b4.below hb4 b4.lt).alloc (.cells (parts 6 0 0 0) 45 (0, 0))
  replace b9 := (b9.below hb4 b9.lt).alloc (.cells (parts 6 0 0 0) 45 (0, 0))
  have b10 := Blk.new (T := 45) w4 (parts 6 0 0 0)
  clear g0 g1 hb4 b3
  go_upto_region 6 with (fail)
  rw [← show parts 6 0 0 0 = #[.int .u8 6, .int .u64 0, .int .u64 0, .int .u64 0, .int .u64 0, .int .u64 0, .int .u64 0, .int .i64 0, .int .u64 0, .int .u64 0, .int .u64 0, .int .u64 0, .int .u64 0, .int .u64 0] from parts_zero 6]
  generalize w4.alloc (.cells (parts 6 0 0 0) 45 (0, 0)) = v at *
  obtain ⟨d0, d1, d2, d3, d4, d5, d6, d7, d8, d9, d10, d11, d12, d13⟩ := b10.p14
  obtain ⟨c0, c1, c2, c3, c4, c5, c6, c7, c8, c9, c10, c11, c12, c13⟩ := b4.p14
  obtain ⟨n0, n1, n2, n3, n4, n5, n6, n7, n8, n9, n10, n11, n12, n13⟩ := b4.free14
  simp only [limb_zero] at d0 d1 d2 d3 d4 d5 d6 d7 d8 d9 d10 d11 d12 d13 c0 c1 c2 c3 c4 c5 c6 c7 c8 c9 c10 c11 c12 c13
  replace d0 : v.cell? ⟨w4.heap.size, 0, none⟩ = some (.int .u8 6) := d0
  replace c0 : v.cell? ⟨w.heap.size + 1, 0, none⟩ = some (.int .u8 0) := c0
  obtain ⟨m0, m1, m2, m3, m4, m5⟩ := b9.six
  obtain ⟨k0, k1, k2, k3, k4, k5, k6, k7, k8, k9, k10, k11, k12, k13⟩ := b10.free14
  have B10 := Lib.hid b10
  have B4 := Lib.hid b4
  have B9 := Lib.hid b9
  obtain ⟨z0, z1, z2, z3, z4, z5⟩ := b9.six_free
  clear b10 b9 b4 cT cP cF cC
  have HW := Lib.hid hw2
  have NE := Lib.hid nE
  have N39 := Lib.hid n39
  have N94 := Lib.hid n94
  clear hw2 nE n39 n94 l4
  go_upto_region 16 with (fail)
  have bT := B9.out.set 1 _ (limbs_top t 1 s HTQ.out HS.out (by decide))
  have bTen := B10.out.other ⟨w3.heap.size, 1, none⟩ (.int .u64 (Go.bits .or .u64 (limb t 1) (IntKind.u64.wrap (2 ^ s)))) (Nat.ne_of_gt N39.out)
  have bFour := B4.out.other ⟨w3.heap.size, 1, none⟩ (.int .u64 (Go.bits .or .u64 (limb t 1) (IntKind.u64.wrap (2 ^ s)))) (Nat.ne_of_lt N94.out)
  have hwT := HW.out.setCell (p := ⟨w3.heap.size, 1, none⟩) (by have := N94.out; show w.heap.size ≤ w3.heap.size; omega) (.int .u64 (Go.bits .or .u64 (limb t 1) (IntKind.u64.wrap (2 ^ s))))
  clear B10 B4 HW B9 HTQ HS N39 N94 d0 d1 d2 d3 d4 d5 d6 d7 d8 d9 d10 d11 d12 d13 c0 c1 c2 c3 c4 c5 c6 c7 c8 c9 c10 c11 c12 c13 n0 n1 n2 n3 n4 n5 n6 n7 n8 n9 n10 n11 n12 n13 k0 k1 k2 k3 k4 k5 k6 k7 k8 k9 k10 k11 k12 k13 m0 m1 m2 m3 m4 m5 z0 z1 z2 z3 z4 z5
  generalize v.setCell ⟨w3.heap.size, 1, none⟩ (.int .u64 (Go.bits .or .u64 (limb t 1) (IntKind.u64.wrap (2 ^ s)))) = x at *
  generalize hT2 : t + 2 ^ (64 * 1 + s) = T at *
  have HT2 := Lib.hid hT2
  have B10 := Lib.hid bTen
  have B4 := Lib.hid bFour
  have HW := Lib.hid hwT
  obtain ⟨m0, m1, m2, m3, m4, m5⟩ := bT.six
  obtain ⟨d0, d1, d2, d3, d4, d5, d6, d7, d8, d9, d10, d11, d12, d13⟩ := bTen.p14
  obtain ⟨k0, k1, k2, k3, k4, k5, k6, k7, k8, k9, k10, k11, k12, k13⟩ := bTen.free14
  obtain ⟨c0, c1, c2, c3, c4, c5, c6, c7, c8, c9, c10, c11, c12, c13⟩ := bFour.p14
  obtain ⟨n0, n1, n2, n3, n4, n5, n6, n7, n8, n9, n10, n11, n12, n13⟩ := bFour.free14
  simp only [limb_zero] at d0 d1 d2 d3 d4 d5 d6 d7 d8 d9 d10 d11 d12 d13
  clear bT bTen bFour hwT hT2 hqi hqs s64
  go_upto_region 17 with (fail)
  have b10 := B10.out.putSig T
  have b4 := B4.out.putSig_other T (Nat.ne_of_lt NE.out)
  have hw := below_putSig HW.out (by have := NE.out; omega : w.heap.size ≤ w4.heap.size) T
  clear B10 B4 HW d0 d1 d2 d3 d4 d5 d6 d7 d8 d9 d10 d11 d12 d13 c0 c1 c2 c3 c4 c5 c6 c7 c8 c9 c10 c11 c12 c13 n0 n1 n2 n3 n4 n5 n6 n7 n8 n9 n10 n11 n12 n13 k0 k1 k2 k3 k4 k5 k6 k7 k8 k9 k10 k11 k12 k13 m0 m1 m2 m3 m4 m5
  change Code.wp _ _ _ _ (putSig x w4.heap.size T)
  generalize putSig x w4.heap.size T = u at *
  have hs := b10.lt
  go_upto_region 18 with (go_at_call 33; refine (cM _).mono ?_; rintro e' w5 ⟨rfl, hb5⟩; have q7 := (b10.below hb5 hs).cell 7 rfl; have y7 := (b10.below hb5 hs).free 7)
  have b10' := ((b10.below hb5 hs).set 7 (.int .i64 ((e : Int) - 1 + em - (p : Int) + 1)) rfl).cast (show _ = parts 6 T ((e : Int) - 1 + em - (p : Int) + 1) 0 by simp [parts])
  have b4' := (b4.below hb5 b4.lt).other ⟨w4.heap.size, 7, none⟩ (.int .i64 ((e : Int) - 1 + em - (p : Int) + 1)) (Nat.ne_of_lt NE.out)
  have hw' := (hw.trans (hb5.mono (by have := NE.out; omega))).setCell (p := ⟨w4.heap.size, 7, none⟩) v21_ (.int .i64 ((e : Int) - 1 + em - (p : Int) + 1))
  clear q7 y7 b10 b4 hw hb5 hs
  generalize w5.setCell ⟨w4.heap.size, 7, none⟩ (.int .i64 ((e : Int) - 1 + em - (p : Int) + 1)) = u2 at *
  generalize hX : ((e : Int) - 1 + em - (p : Int) + 1) = X at *
  have HX := Lib.hid hX
  clear hX
  obtain ⟨d0, d1, d2, d3, d4, d5, d6, d7, d8, d9, d10, d11, d12, d13⟩ := b10'.p14
  obtain ⟨c0, c1, c2, c3, c4, c5, c6, c7, c8, c9, c10, c11, c12, c13⟩ := b4'.p14
  obtain ⟨n0, n1, n2, n3, n4, n5, n6, n7, n8, n9, n10, n11, n12, n13⟩ := b4'.free14
  simp only [limb_zero] at d0 d1 d2 d3 d4 d5 d6 d7 d8 d9 d10 d11 d12 d13 c0 c1 c2 c3 c4 c5 c6 c7 c8 c9 c10 c11 c12 c13
  replace d0 : u2.cell? ⟨w4.heap.size, 0, none⟩ = some (.int .u8 6) := d0
  replace c0 : u2.cell? ⟨w.heap.size + 1, 0, none⟩ = some (.int .u8 0) := c0
  clear b10' b4' he hp hm1 hm2 he' he0 hp' hp0 cM
  have HW := Lib.hid hw'
  clear hw'
  go_wp2_with fail
  have hb := below_put14 HW.out (by omega : w.heap.size ≤ w.heap.size + 1) 6 T X 0
  unfold put14 at hb
  simp only [limb_zero] at hb
  exact bodyPost_ret (v := .tuple #[PV 6 T X 0, .int .i64 0]) v20_ rfl ⟨by rw [HX.out, HT2.out], hb⟩
open Go.RowKit
theorem ret_parts {c c' s s' f f' : Nat} {x x' : Int} {e : Ending} {P : Prop} (h1 : c = c') (h2 : s = s') (h3 : x = x') (h4 : f = f') (k : e = .returned (.tuple #[PV c s x f, .int .i64 0]) ∧ P) : e = .returned (.tuple #[PV c' s' x' f', .int .i64 0]) ∧ P := by
  subst h1 h2 h3 h4; exact k
theorem leadBit (f : Nat) (h : f < 4) : (((pF f : Int) - 1) / 64 = 0 ∧ ∃ s : Nat, s < 64 ∧ ((pF f : Int) - 1) % 64 = s ∧ pF f - 1 = 64 * 0 + s) ∨ (((pF f : Int) - 1) / 64 = 1 ∧ ∃ s : Nat, s < 64 ∧ ((pF f : Int) - 1) % 64 = s ∧ pF f - 1 = 64 * 1 + s) := by
  have : f = 0 ∨ f = 1 ∨ f = 2 ∨ f = 3 := by omega
  rcases this with rfl | rfl | rfl | rfl
  · left; exact ⟨by decide, 23, by decide, by decide, rfl⟩
  · left; exact ⟨by decide, 52, by decide, by decide, rfl⟩
  · left; exact ⟨by decide, 10, by decide, by decide, rfl⟩
  · right; exact ⟨by decide, 48, by decide, by decide, rfl⟩
theorem kindUnpack_yes (f b : Nat) (w : World) (h : fitsB f b = true) (hT : Tab w) :
    Calls Tryd.prog 13 #[.int .u8 f, BV b] w fun e w' => e = .returned (.tuple #[PV (clsN f b) (sigN f b) (xpN f b) (frN f b), .int .i64 0]) ∧ Below w.heap.size w w' := by
  obtain ⟨hf, hb0⟩ := (fits_iff f b).1 h
  obtain ⟨h1, h2, h3, h4, h5, h6, h7, h8⟩ := formK f hf
  have hb : b < 2 ^ (64 * 2) := Nat.lt_of_lt_of_le hb0 (Nat.pow_le_pow_right (by decide) (by have := (formB f hf).2.2.2.1; omega))
  have cT := fun w => shapeFits_any f b w hb
  rw [h] at cT
  have cP := fun w => shapePrecision_any f w (by omega)
  have cM := fun w => shapeEmin_any f w (by omega)
  have cF := fun w hT => kindFields_any f b w hf hb hT
  have cC := fun w hT => kindclass_any f b w hf hb hT
  have hx := expN_lt f b hf
  have ht := Nat.mod_lt b (two_pos (pF f - 1))
  rcases cls_cases f b with ⟨e1, e2, e3⟩ | ⟨e1, e2, e3⟩ | ⟨e1, e2, e3⟩ | ⟨e1, e2, e3⟩ | ⟨e1, e2, e3⟩
  · cases hn : negN f b
    · rw [hn] at e3
      simp only [e3, cond] at cC
      refine (kindUnpack_7 f b _ _ _ _ w hT cT cP cF cC).mono fun e w' k => ret_parts ?_ ?_ ?_ ?_ k
      · rw [e3]; rfl
      · unfold sigN; rw [e3]; rfl
      · unfold xpN; rw [e3]; rfl
      · unfold frN; rw [e3]; rfl
    · rw [hn] at e3
      simp only [e3, cond] at cC
      refine (kindUnpack_0 f b _ _ _ _ w hT cT cP cF cC).mono fun e w' k => ret_parts ?_ ?_ ?_ ?_ k
      · rw [e3]; rfl
      · unfold sigN; rw [e3]; rfl
      · unfold xpN; rw [e3]; rfl
      · unfold frN; rw [e3]; rfl
  · cases hn : (b % 2 ^ (pF f - 1)).testBit (pF f - 2)
    · rw [hn] at e3
      simp only [e3, cond] at cC
      refine (kindUnpack_8 f b _ _ _ _ w hT cT cP cF cC).mono fun e w' k => ret_parts ?_ ?_ ?_ ?_ k
      · rw [e3]; rfl
      · unfold sigN; rw [e3]; rfl
      · unfold xpN; rw [e3]; rfl
      · unfold frN; rw [e3]; rfl
    · rw [hn] at e3
      simp only [e3, cond] at cC
      refine (kindUnpack_9 f b _ _ _ _ w hT cT cP cF cC).mono fun e w' k => ret_parts ?_ ?_ ?_ ?_ k
      · rw [e3]; rfl
      · unfold sigN; rw [e3]; rfl
      · unfold xpN; rw [e3]; rfl
      · unfold frN; rw [e3]; rfl
  · cases hn : negN f b
    · rw [hn] at e3
      simp only [e3, cond] at cC
      refine (kindUnpack_4 f b _ _ _ _ w hT cT cP cF cC).mono fun e w' k => ret_parts ?_ ?_ ?_ ?_ k
      · rw [e3]; rfl
      · unfold sigN; rw [e3]; rfl
      · unfold xpN; rw [e3]; rfl
      · unfold frN; rw [e3]; rfl
    · rw [hn] at e3
      simp only [e3, cond] at cC
      refine (kindUnpack_3 f b _ _ _ _ w hT cT cP cF cC).mono fun e w' k => ret_parts ?_ ?_ ?_ ?_ k
      · rw [e3]; rfl
      · unfold sigN; rw [e3]; rfl
      · unfold xpN; rw [e3]; rfl
      · unfold frN; rw [e3]; rfl
  · cases hn : negN f b
    · rw [hn] at e3
      simp only [e3, cond] at cC
      refine (kindUnpack_5 f b _ _ _ _ _ w hT (by omega) h8 (by omega) (by omega) cM cT cP cF cC).mono fun e w' k => ret_parts ?_ ?_ ?_ ?_ k
      · rw [e3]; rfl
      · unfold sigN; rw [e3]; rfl
      · unfold xpN; rw [e3]; rfl
      · unfold frN; rw [e3]; rfl
    · rw [hn] at e3
      simp only [e3, cond] at cC
      refine (kindUnpack_2 f b _ _ _ _ _ w hT (by omega) h8 (by omega) (by omega) cM cT cP cF cC).mono fun e w' k => ret_parts ?_ ?_ ?_ ?_ k
      · rw [e3]; rfl
      · unfold sigN; rw [e3]; rfl
      · unfold xpN; rw [e3]; rfl
      · unfold frN; rw [e3]; rfl
  · cases hn : negN f b
    · rw [hn] at e3
      simp only [e3, cond] at cC
      rcases leadBit f hf with ⟨q1, s, q2, q3, q4⟩ | ⟨q1, s, q2, q3, q4⟩
      · refine (kindUnpack_6_0 f b _ _ _ _ _ w hT s (by omega) (by omega) q2 (by rw [← q4]; exact ht) q1 q3 h7 h8 (by omega) (by omega) cM cT cP cF cC).mono fun e w' k => ret_parts ?_ ?_ ?_ ?_ k
        · rw [e3]; rfl
        · unfold sigN; rw [e3, ← q4]; rfl
        · unfold xpN; rw [e3]; rfl
        · unfold frN; rw [e3]; rfl
      · refine (kindUnpack_6_1 f b _ _ _ _ _ w hT s (by omega) (by omega) q2 (by rw [← q4]; exact ht) q1 q3 h7 h8 (by omega) (by omega) cM cT cP cF cC).mono fun e w' k => ret_parts ?_ ?_ ?_ ?_ k
        · rw [e3]; rfl
        · unfold sigN; rw [e3, ← q4]; rfl
        · unfold xpN; rw [e3]; rfl
        · unfold frN; rw [e3]; rfl
    · rw [hn] at e3
      simp only [e3, cond] at cC
      rcases leadBit f hf with ⟨q1, s, q2, q3, q4⟩ | ⟨q1, s, q2, q3, q4⟩
      · refine (kindUnpack_1_0 f b _ _ _ _ _ w hT s (by omega) (by omega) q2 (by rw [← q4]; exact ht) q1 q3 h7 h8 (by omega) (by omega) cM cT cP cF cC).mono fun e w' k => ret_parts ?_ ?_ ?_ ?_ k
        · rw [e3]; rfl
        · unfold sigN; rw [e3, ← q4]; rfl
        · unfold xpN; rw [e3]; rfl
        · unfold frN; rw [e3]; rfl
      · refine (kindUnpack_1_1 f b _ _ _ _ _ w hT s (by omega) (by omega) q2 (by rw [← q4]; exact ht) q1 q3 h7 h8 (by omega) (by omega) cM cT cP cF cC).mono fun e w' k => ret_parts ?_ ?_ ?_ ?_ k
        · rw [e3]; rfl
        · unfold sigN; rw [e3, ← q4]; rfl
        · unfold xpN; rw [e3]; rfl
        · unfold frN; rw [e3]; rfl
theorem kindUnpack_not (f b : Nat) (w : World) (hb : b < 2 ^ (64 * 2)) (h : fitsB f b = false) :
    Calls Tryd.prog 13 #[.int .u8 f, BV b] w fun e w' => e = .returned (.tuple #[PV 0 0 0 0, .int .i64 2]) ∧ Below w.heap.size w w' := by
  have cT := fun w => shapeFits_any f b w hb
  rw [h] at cT
  exact kindUnpack_no f b w cT
end Go.Proofs.YtecdpjhifmlahaaDoor
