/- The contract of kind.Unpack: subnormal numbers. -/
import Derived.Test.YtjgonofkklpgaaaDoorUnp
import Derived.Deep.Cut
namespace Go.Proofs.YtjgonofkklpgaaaDoor
open Go.RowKit

/-- A significand stored. -/
def putSig (w : World) (g y : Nat) : World := ((((((w.setCell ⟨g, 1, none⟩ (.int .u64 (limb y 0))).setCell ⟨g, 2, none⟩ (.int .u64 (limb y 1))).setCell ⟨g, 3, none⟩ (.int .u64 (limb y 2))).setCell ⟨g, 4, none⟩ (.int .u64 (limb y 3))).setCell ⟨g, 5, none⟩ (.int .u64 (limb y 4))).setCell ⟨g, 6, none⟩ (.int .u64 (limb y 5)))
theorem Blk.putSig {T : TypeId} {w : World} {g c s : Nat} {x : Int} {f : Nat} (h : Blk T w g (parts c s x f)) (y : Nat) : Blk T (putSig w g y) g (parts c y x f) := by
  unfold Go.Proofs.YtjgonofkklpgaaaDoor.putSig
  exact Blk.cast ((((((h.set 1 _ rfl).set 2 _ rfl).set 3 _ rfl).set 4 _ rfl).set 5 _ rfl).set 6 _ rfl) (by simp [parts])
theorem Blk.putSig_other {T : TypeId} {w : World} {g k : Nat} {cs : Array Value} (h : Blk T w g cs) (y : Nat) (hne : g ≠ k) : Blk T (Go.Proofs.YtjgonofkklpgaaaDoor.putSig w k y) g cs := ((((((h.other _ _ hne).other _ _ hne).other _ _ hne).other _ _ hne).other _ _ hne).other _ _ hne)
theorem below_putSig {B : Nat} {w0 w : World} {g : Nat} (hb : Below B w0 w) (hg : B ≤ g) (y : Nat) : Below B w0 (putSig w g y) := ((((((hb.setCell hg _).setCell hg _).setCell hg _).setCell hg _).setCell hg _).setCell hg _)

set_option maxHeartbeats 3200000 in
set_option maxRecDepth 100000 in
theorem kindUnpack_2 (f b e t p : Nat) (em : Int) (neg : Bool) (w : World) (hT : Tab w) (he : e ≤ 32767) (hp : p ≤ 113) (hm1 : -16382 ≤ em) (hm2 : em ≤ 0)
    (cM : ∀ w, Calls Tryd.prog 119 #[.int .u8 f] w fun e' w' => e' = .returned (.int .i64 em) ∧ Below w.heap.size w w')
    (cT : ∀ w, Calls Tryd.prog 47 #[.int .u8 f, BV b] w fun e' w' => e' = .returned (.bool true) ∧ Below w.heap.size w w')
    (cP : ∀ w, Calls Tryd.prog 75 #[.int .u8 f] w fun e' w' => e' = .returned (.int .i64 (p : Nat)) ∧ Below w.heap.size w w')
    (cF : ∀ w, Tab w → Calls Tryd.prog 118 #[.int .u8 f, BV b] w fun e' w' => e' = .returned (.tuple #[.bool neg, .int .i64 (e : Nat), W t]) ∧ Below w.heap.size w w')
    (cC : ∀ w, Tab w → Calls Tryd.prog 70 #[.int .u8 f, BV b] w fun e' w' => e' = .returned (.int .u8 2) ∧ Below w.heap.size w w') :
    Calls Tryd.prog 56 #[.int .u8 f, BV b] w fun e' w' => e' = .returned (.tuple #[PV 2 t ((e : Int) + em - (p : Int) + 1) 0, .int .i64 0]) ∧ Below w.heap.size w w' := by
  have HT := Lib.hid hT
  clear hT
  have he' : (e : Int) ≤ 32767 := by omega
  have he0 : (0 : Int) ≤ (e : Int) := by omega
  have hp' : (p : Int) ≤ 113 := by omega
  have hp0 : (0 : Int) ≤ (p : Int) := by omega
  go_enter Tryd.func56, Tryd.ntmps56
  go_wp2_with fail
  refine (cT _).mono ?_
  rintro e' w1 ⟨rfl, hb1⟩
  go_wp2_with fail
  refine (cP _).mono ?_
  rintro e' w2 ⟨rfl, hb2⟩
  have b4 : Blk 75 w2 (w.heap.size + 1) (parts 0 0 0 0) := by
    rw [parts_zero]
    have := (Blk.new (T := 75) (w.alloc (.cells #[.int .u64 (limb b 1), .int .u64 (limb b 0)] 26 (0, 0))) #[.int .u8 0, .int .u64 0, .int .u64 0, .int .u64 0, .int .u64 0, .int .u64 0, .int .u64 0, .int .i64 0, .int .u64 0, .int .u64 0, .int .u64 0, .int .u64 0, .int .u64 0, .int .u64 0]).below hb1 (by simp)
    have := this.below hb2 this.lt
    simpa using this
  have b3 : Blk 26 w2 w.heap.size #[.int .u64 (limb b 1), .int .u64 (limb b 0)] := by
    have h1 := ((Blk.new (T := 26) w #[.int .u64 (limb b 1), .int .u64 (limb b 0)]).alloc (.cells #[.int .u8 0, .int .u64 0, .int .u64 0, .int .u64 0, .int .u64 0, .int .u64 0, .int .u64 0, .int .i64 0, .int .u64 0, .int .u64 0, .int .u64 0, .int .u64 0, .int .u64 0, .int .u64 0] 75 (0, 0))).below hb1 (by simp <;> omega)
    exact h1.below hb2 h1.lt
  have hw2 := ((((Below.refl w.heap.size w).alloc (Nat.le_refl _) (.cells #[.int .u64 (limb b 1), .int .u64 (limb b 0)] 26 (0, 0))).alloc (by simp) (.cells #[.int .u8 0, .int .u64 0, .int .u64 0, .int .u64 0, .int .u64 0, .int .u64 0, .int .u64 0, .int .i64 0, .int .u64 0, .int .u64 0, .int .u64 0, .int .u64 0, .int .u64 0, .int .u64 0] 75 (0, 0))).trans (hb1.mono (by simp <;> omega))).trans (hb2.mono (by have := hb1.size; simp at this; omega))
  clear hb1 hb2
  have g0 := b3.cell 0 rfl
  have g1 := b3.cell 1 rfl
  go_wp2_with fail
  refine (cF _ (HT.out.below hw2)).mono ?_
  rintro e' w3 ⟨rfl, hb3⟩
  replace hw2 := (hw2.trans (hb3.mono (Nat.le_of_lt b3.lt))).alloc (by have := b3.lt; have := hb3.size; omega) (.cells (limbs t) 35 (0, 0))
  replace b4 := (b4.below hb3 b4.lt).alloc (.cells (limbs t) 35 (0, 0))
  replace b3 := (b3.below hb3 b3.lt).alloc (.cells (limbs t) 35 (0, 0))
  have b9 := Blk.new (T := 35) w3 (limbs t)
  clear g0 g1 hb3
  go_upto_region 5 with (fail)
  change Code.wp _ _ _ _ (w3.alloc (.cells (limbs t) 35 (0, 0)))
  generalize w3.alloc (.cells (limbs t) 35 (0, 0)) = v at *
  have g0 := b3.cell 0 rfl
  have g1 := b3.cell 1 rfl
  go_wp2_with fail
  refine (cC _ (HT.out.below hw2)).mono ?_
  rintro e' w4 ⟨rfl, hb4⟩
  replace hw2 := (hw2.trans (hb4.mono (Nat.le_of_lt b3.lt))).alloc (by have := b3.lt; have := hb4.size; omega) (.cells (parts 2 0 0 0) 75 (0, 0))
  have nE : w.heap.size + 1 < w4.heap.size := (b4.below hb4 b4.lt).lt
  replace b4 := (b4.below hb4 b4.lt).alloc (.cells (parts 2 0 0 0) 75 (0, 0))
  replace b9 := (b9.below hb4 b9.lt).alloc (.cells (parts 2 0 0 0) 75 (0, 0))
  have b10 := Blk.new (T := 75) w4 (parts 2 0 0 0)
  clear g0 g1 hb4 b3
  go_upto_region 6 with (fail)
  rw [← show parts 2 0 0 0 = #[.int .u8 2, .int .u64 0, .int .u64 0, .int .u64 0, .int .u64 0, .int .u64 0, .int .u64 0, .int .i64 0, .int .u64 0, .int .u64 0, .int .u64 0, .int .u64 0, .int .u64 0, .int .u64 0] from parts_zero 2]
  generalize w4.alloc (.cells (parts 2 0 0 0) 75 (0, 0)) = v at *
  obtain ⟨d0, d1, d2, d3, d4, d5, d6, d7, d8, d9, d10, d11, d12, d13⟩ := b10.p14
  obtain ⟨c0, c1, c2, c3, c4, c5, c6, c7, c8, c9, c10, c11, c12, c13⟩ := b4.p14
  obtain ⟨n0, n1, n2, n3, n4, n5, n6, n7, n8, n9, n10, n11, n12, n13⟩ := b4.free14
  simp only [limb_zero] at d0 d1 d2 d3 d4 d5 d6 d7 d8 d9 d10 d11 d12 d13 c0 c1 c2 c3 c4 c5 c6 c7 c8 c9 c10 c11 c12 c13
  replace d0 : v.cell? ⟨w4.heap.size, 0, none⟩ = some (.int .u8 2) := d0
  replace c0 : v.cell? ⟨w.heap.size + 1, 0, none⟩ = some (.int .u8 0) := c0
  obtain ⟨m0, m1, m2, m3, m4, m5⟩ := b9.six
  obtain ⟨k0, k1, k2, k3, k4, k5, k6, k7, k8, k9, k10, k11, k12, k13⟩ := b10.free14
  have B10 := Lib.hid b10
  have B4 := Lib.hid b4
  clear b10 b9 b4 cT cP cF cC
  have HW := Lib.hid hw2
  have NE := Lib.hid nE
  clear hw2 nE
  go_upto_region 17 with (fail)
  have b10 := B10.out.putSig t
  have b4 := B4.out.putSig_other t (Nat.ne_of_lt NE.out)
  have hw := below_putSig HW.out (by have := NE.out; omega : w.heap.size ≤ w4.heap.size) t
  clear B10 B4 HW d0 d1 d2 d3 d4 d5 d6 d7 d8 d9 d10 d11 d12 d13 c0 c1 c2 c3 c4 c5 c6 c7 c8 c9 c10 c11 c12 c13 n0 n1 n2 n3 n4 n5 n6 n7 n8 n9 n10 n11 n12 n13 k0 k1 k2 k3 k4 k5 k6 k7 k8 k9 k10 k11 k12 k13 m0 m1 m2 m3 m4 m5
  change Code.wp _ _ _ _ (putSig v w4.heap.size t)
  generalize putSig v w4.heap.size t = u at *
  have hs := b10.lt
  go_upto_region 18 with (go_at_call 119; refine (cM _).mono ?_; rintro e' w5 ⟨rfl, hb5⟩; have q7 := (b10.below hb5 hs).cell 7 rfl; have y7 := (b10.below hb5 hs).free 7)
  have b10' := ((b10.below hb5 hs).set 7 (.int .i64 ((e : Int) + em - (p : Int) + 1)) rfl).cast (show _ = parts 2 t ((e : Int) + em - (p : Int) + 1) 0 by simp [parts])
  have b4' := (b4.below hb5 b4.lt).other ⟨w4.heap.size, 7, none⟩ (.int .i64 ((e : Int) + em - (p : Int) + 1)) (Nat.ne_of_lt NE.out)
  have hw' := (hw.trans (hb5.mono (by have := NE.out; omega))).setCell (p := ⟨w4.heap.size, 7, none⟩) (by have := NE.out; show w.heap.size ≤ w4.heap.size; omega) (.int .i64 ((e : Int) + em - (p : Int) + 1))
  clear q7 y7 b10 b4 hw hb5 hs
  generalize w5.setCell ⟨w4.heap.size, 7, none⟩ (.int .i64 ((e : Int) + em - (p : Int) + 1)) = u2 at *
  generalize hX : ((e : Int) + em - (p : Int) + 1) = X at *
  have HX := Lib.hid hX
  clear hX
  obtain ⟨d0, d1, d2, d3, d4, d5, d6, d7, d8, d9, d10, d11, d12, d13⟩ := b10'.p14
  obtain ⟨c0, c1, c2, c3, c4, c5, c6, c7, c8, c9, c10, c11, c12, c13⟩ := b4'.p14
  obtain ⟨n0, n1, n2, n3, n4, n5, n6, n7, n8, n9, n10, n11, n12, n13⟩ := b4'.free14
  simp only [limb_zero] at d0 d1 d2 d3 d4 d5 d6 d7 d8 d9 d10 d11 d12 d13 c0 c1 c2 c3 c4 c5 c6 c7 c8 c9 c10 c11 c12 c13
  replace d0 : u2.cell? ⟨w4.heap.size, 0, none⟩ = some (.int .u8 2) := d0
  replace c0 : u2.cell? ⟨w.heap.size + 1, 0, none⟩ = some (.int .u8 0) := c0
  clear b10' b4' he hp hm1 hm2 he' he0 hp' hp0 cM
  have HW := Lib.hid hw'
  clear hw'
  go_wp2_with fail
  have hb := below_put14 HW.out (by omega : w.heap.size ≤ w.heap.size + 1) 2 t X 0
  unfold put14 at hb
  simp only [limb_zero] at hb
  exact bodyPost_ret (v := .tuple #[PV 2 t X 0, .int .i64 0]) (by simp [results, Tryd.results56, go_sem, parts, limb_zero, c0, c1, c2, c3, c4, c5, c6, c7, c8, c9, c10, c11, c12, c13]) rfl ⟨by rw [HX.out], hb⟩
set_option maxHeartbeats 3200000 in
set_option maxRecDepth 100000 in
theorem kindUnpack_5 (f b e t p : Nat) (em : Int) (neg : Bool) (w : World) (hT : Tab w) (he : e ≤ 32767) (hp : p ≤ 113) (hm1 : -16382 ≤ em) (hm2 : em ≤ 0)
    (cM : ∀ w, Calls Tryd.prog 119 #[.int .u8 f] w fun e' w' => e' = .returned (.int .i64 em) ∧ Below w.heap.size w w')
    (cT : ∀ w, Calls Tryd.prog 47 #[.int .u8 f, BV b] w fun e' w' => e' = .returned (.bool true) ∧ Below w.heap.size w w')
    (cP : ∀ w, Calls Tryd.prog 75 #[.int .u8 f] w fun e' w' => e' = .returned (.int .i64 (p : Nat)) ∧ Below w.heap.size w w')
    (cF : ∀ w, Tab w → Calls Tryd.prog 118 #[.int .u8 f, BV b] w fun e' w' => e' = .returned (.tuple #[.bool neg, .int .i64 (e : Nat), W t]) ∧ Below w.heap.size w w')
    (cC : ∀ w, Tab w → Calls Tryd.prog 70 #[.int .u8 f, BV b] w fun e' w' => e' = .returned (.int .u8 5) ∧ Below w.heap.size w w') :
    Calls Tryd.prog 56 #[.int .u8 f, BV b] w fun e' w' => e' = .returned (.tuple #[PV 5 t ((e : Int) + em - (p : Int) + 1) 0, .int .i64 0]) ∧ Below w.heap.size w w' := by
  have HT := Lib.hid hT
  clear hT
  have he' : (e : Int) ≤ 32767 := by omega
  have he0 : (0 : Int) ≤ (e : Int) := by omega
  have hp' : (p : Int) ≤ 113 := by omega
  have hp0 : (0 : Int) ≤ (p : Int) := by omega
  go_enter Tryd.func56, Tryd.ntmps56
  go_wp2_with fail
  refine (cT _).mono ?_
  rintro e' w1 ⟨rfl, hb1⟩
  go_wp2_with fail
  refine (cP _).mono ?_
  rintro e' w2 ⟨rfl, hb2⟩
  have b4 : Blk 75 w2 (w.heap.size + 1) (parts 0 0 0 0) := by
    rw [parts_zero]
    have := (Blk.new (T := 75) (w.alloc (.cells #[.int .u64 (limb b 1), .int .u64 (limb b 0)] 26 (0, 0))) #[.int .u8 0, .int .u64 0, .int .u64 0, .int .u64 0, .int .u64 0, .int .u64 0, .int .u64 0, .int .i64 0, .int .u64 0, .int .u64 0, .int .u64 0, .int .u64 0, .int .u64 0, .int .u64 0]).below hb1 (by simp)
    have := this.below hb2 this.lt
    simpa using this
  have b3 : Blk 26 w2 w.heap.size #[.int .u64 (limb b 1), .int .u64 (limb b 0)] := by
    have h1 := ((Blk.new (T := 26) w #[.int .u64 (limb b 1), .int .u64 (limb b 0)]).alloc (.cells #[.int .u8 0, .int .u64 0, .int .u64 0, .int .u64 0, .int .u64 0, .int .u64 0, .int .u64 0, .int .i64 0, .int .u64 0, .int .u64 0, .int .u64 0, .int .u64 0, .int .u64 0, .int .u64 0] 75 (0, 0))).below hb1 (by simp <;> omega)
    exact h1.below hb2 h1.lt
  have hw2 := ((((Below.refl w.heap.size w).alloc (Nat.le_refl _) (.cells #[.int .u64 (limb b 1), .int .u64 (limb b 0)] 26 (0, 0))).alloc (by simp) (.cells #[.int .u8 0, .int .u64 0, .int .u64 0, .int .u64 0, .int .u64 0, .int .u64 0, .int .u64 0, .int .i64 0, .int .u64 0, .int .u64 0, .int .u64 0, .int .u64 0, .int .u64 0, .int .u64 0] 75 (0, 0))).trans (hb1.mono (by simp <;> omega))).trans (hb2.mono (by have := hb1.size; simp at this; omega))
  clear hb1 hb2
  have g0 := b3.cell 0 rfl
  have g1 := b3.cell 1 rfl
  go_wp2_with fail
  refine (cF _ (HT.out.below hw2)).mono ?_
  rintro e' w3 ⟨rfl, hb3⟩
  replace hw2 := (hw2.trans (hb3.mono (Nat.le_of_lt b3.lt))).alloc (by have := b3.lt; have := hb3.size; omega) (.cells (limbs t) 35 (0, 0))
  replace b4 := (b4.below hb3 b4.lt).alloc (.cells (limbs t) 35 (0, 0))
  replace b3 := (b3.below hb3 b3.lt).alloc (.cells (limbs t) 35 (0, 0))
  have b9 := Blk.new (T := 35) w3 (limbs t)
  clear g0 g1 hb3
  go_upto_region 5 with (fail)
  change Code.wp _ _ _ _ (w3.alloc (.cells (limbs t) 35 (0, 0)))
  generalize w3.alloc (.cells (limbs t) 35 (0, 0)) = v at *
  have g0 := b3.cell 0 rfl
  have g1 := b3.cell 1 rfl
  go_wp2_with fail
  refine (cC _ (HT.out.below hw2)).mono ?_
  rintro e' w4 ⟨rfl, hb4⟩
  replace hw2 := (hw2.trans (hb4.mono (Nat.le_of_lt b3.lt))).alloc (by have := b3.lt; have := hb4.size; omega) (.cells (parts 5 0 0 0) 75 (0, 0))
  have nE : w.heap.size + 1 < w4.heap.size := (b4.below hb4 b4.lt).lt
  replace b4 := (b4.below hb4 b4.lt).alloc (.cells (parts 5 0 0 0) 75 (0, 0))
  replace b9 := (b9.below hb4 b9.lt).alloc (.cells (parts 5 0 0 0) 75 (0, 0))
  have b10 := Blk.new (T := 75) w4 (parts 5 0 0 0)
  clear g0 g1 hb4 b3
  go_upto_region 6 with (fail)
  rw [← show parts 5 0 0 0 = #[.int .u8 5, .int .u64 0, .int .u64 0, .int .u64 0, .int .u64 0, .int .u64 0, .int .u64 0, .int .i64 0, .int .u64 0, .int .u64 0, .int .u64 0, .int .u64 0, .int .u64 0, .int .u64 0] from parts_zero 5]
  generalize w4.alloc (.cells (parts 5 0 0 0) 75 (0, 0)) = v at *
  obtain ⟨d0, d1, d2, d3, d4, d5, d6, d7, d8, d9, d10, d11, d12, d13⟩ := b10.p14
  obtain ⟨c0, c1, c2, c3, c4, c5, c6, c7, c8, c9, c10, c11, c12, c13⟩ := b4.p14
  obtain ⟨n0, n1, n2, n3, n4, n5, n6, n7, n8, n9, n10, n11, n12, n13⟩ := b4.free14
  simp only [limb_zero] at d0 d1 d2 d3 d4 d5 d6 d7 d8 d9 d10 d11 d12 d13 c0 c1 c2 c3 c4 c5 c6 c7 c8 c9 c10 c11 c12 c13
  replace d0 : v.cell? ⟨w4.heap.size, 0, none⟩ = some (.int .u8 5) := d0
  replace c0 : v.cell? ⟨w.heap.size + 1, 0, none⟩ = some (.int .u8 0) := c0
  obtain ⟨m0, m1, m2, m3, m4, m5⟩ := b9.six
  obtain ⟨k0, k1, k2, k3, k4, k5, k6, k7, k8, k9, k10, k11, k12, k13⟩ := b10.free14
  have B10 := Lib.hid b10
  have B4 := Lib.hid b4
  clear b10 b9 b4 cT cP cF cC
  have HW := Lib.hid hw2
  have NE := Lib.hid nE
  clear hw2 nE
  go_upto_region 17 with (fail)
  have b10 := B10.out.putSig t
  have b4 := B4.out.putSig_other t (Nat.ne_of_lt NE.out)
  have hw := below_putSig HW.out (by have := NE.out; omega : w.heap.size ≤ w4.heap.size) t
  clear B10 B4 HW d0 d1 d2 d3 d4 d5 d6 d7 d8 d9 d10 d11 d12 d13 c0 c1 c2 c3 c4 c5 c6 c7 c8 c9 c10 c11 c12 c13 n0 n1 n2 n3 n4 n5 n6 n7 n8 n9 n10 n11 n12 n13 k0 k1 k2 k3 k4 k5 k6 k7 k8 k9 k10 k11 k12 k13 m0 m1 m2 m3 m4 m5
  change Code.wp _ _ _ _ (putSig v w4.heap.size t)
  generalize putSig v w4.heap.size t = u at *
  have hs := b10.lt
  go_upto_region 18 with (go_at_call 119; refine (cM _).mono ?_; rintro e' w5 ⟨rfl, hb5⟩; have q7 := (b10.below hb5 hs).cell 7 rfl; have y7 := (b10.below hb5 hs).free 7)
  have b10' := ((b10.below hb5 hs).set 7 (.int .i64 ((e : Int) + em - (p : Int) + 1)) rfl).cast (show _ = parts 5 t ((e : Int) + em - (p : Int) + 1) 0 by simp [parts])
  have b4' := (b4.below hb5 b4.lt).other ⟨w4.heap.size, 7, none⟩ (.int .i64 ((e : Int) + em - (p : Int) + 1)) (Nat.ne_of_lt NE.out)
  have hw' := (hw.trans (hb5.mono (by have := NE.out; omega))).setCell (p := ⟨w4.heap.size, 7, none⟩) (by have := NE.out; show w.heap.size ≤ w4.heap.size; omega) (.int .i64 ((e : Int) + em - (p : Int) + 1))
  clear q7 y7 b10 b4 hw hb5 hs
  generalize w5.setCell ⟨w4.heap.size, 7, none⟩ (.int .i64 ((e : Int) + em - (p : Int) + 1)) = u2 at *
  generalize hX : ((e : Int) + em - (p : Int) + 1) = X at *
  have HX := Lib.hid hX
  clear hX
  obtain ⟨d0, d1, d2, d3, d4, d5, d6, d7, d8, d9, d10, d11, d12, d13⟩ := b10'.p14
  obtain ⟨c0, c1, c2, c3, c4, c5, c6, c7, c8, c9, c10, c11, c12, c13⟩ := b4'.p14
  obtain ⟨n0, n1, n2, n3, n4, n5, n6, n7, n8, n9, n10, n11, n12, n13⟩ := b4'.free14
  simp only [limb_zero] at d0 d1 d2 d3 d4 d5 d6 d7 d8 d9 d10 d11 d12 d13 c0 c1 c2 c3 c4 c5 c6 c7 c8 c9 c10 c11 c12 c13
  replace d0 : u2.cell? ⟨w4.heap.size, 0, none⟩ = some (.int .u8 5) := d0
  replace c0 : u2.cell? ⟨w.heap.size + 1, 0, none⟩ = some (.int .u8 0) := c0
  clear b10' b4' he hp hm1 hm2 he' he0 hp' hp0 cM
  have HW := Lib.hid hw'
  clear hw'
  go_wp2_with fail
  have hb := below_put14 HW.out (by omega : w.heap.size ≤ w.heap.size + 1) 5 t X 0
  unfold put14 at hb
  simp only [limb_zero] at hb
  exact bodyPost_ret (v := .tuple #[PV 5 t X 0, .int .i64 0]) (by simp [results, Tryd.results56, go_sem, parts, limb_zero, c0, c1, c2, c3, c4, c5, c6, c7, c8, c9, c10, c11, c12, c13]) rfl ⟨by rw [HX.out], hb⟩
end Go.Proofs.YtjgonofkklpgaaaDoor
