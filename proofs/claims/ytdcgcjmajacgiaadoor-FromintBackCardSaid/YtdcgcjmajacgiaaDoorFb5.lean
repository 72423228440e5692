/- Part 5 of what is proved: Unp4, Setb, Unp5, Unp6, Unp7, Pcx, Pco, Pkj, Bld. -/
import Derived.Deep.Cut
import Derived.Test.YtdcgcjmajacgiaaDoorFb1
import Derived.Test.YtdcgcjmajacgiaaDoorFb2
import Derived.Test.YtdcgcjmajacgiaaDoorFb3
import Derived.Test.YtdcgcjmajacgiaaDoorFb4
set_option linter.unusedSimpArgs false
set_option linter.unusedVariables false
set_option linter.unnecessarySimpa false
namespace Go.Proofs.YtdcgcjmajacgiaaDoor
open Go.RowKit
/-- A significand stored. -/
def putSig (w : World) (g y : Nat) : World := ((((((w.setCell ⟨g, 1, none⟩ (.int .u64 (limb y 0))).setCell ⟨g, 2, none⟩ (.int .u64 (limb y 1))).setCell ⟨g, 3, none⟩ (.int .u64 (limb y 2))).setCell ⟨g, 4, none⟩ (.int .u64 (limb y 3))).setCell ⟨g, 5, none⟩ (.int .u64 (limb y 4))).setCell ⟨g, 6, none⟩ (.int .u64 (limb y 5)))
theorem Blk.putSig {T : TypeId} {w : World} {g c s : Nat} {x : Int} {f : Nat} (h : Blk T w g (parts c s x f)) (y : Nat) : Blk T (putSig w g y) g (parts c y x f) := by
  unfold Go.Proofs.YtdcgcjmajacgiaaDoor.putSig
  exact Blk.cast ((((((h.set 1 _ rfl).set 2 _ rfl).set 3 _ rfl).set 4 _ rfl).set 5 _ rfl).set 6 _ rfl) (by simp [parts])
theorem Blk.putSig_other {T : TypeId} {w : World} {g k : Nat} {cs : Array Value} (h : Blk T w g cs) (y : Nat) (hne : g ≠ k) : Blk T (Go.Proofs.YtdcgcjmajacgiaaDoor.putSig w k y) g cs := ((((((h.other _ _ hne).other _ _ hne).other _ _ hne).other _ _ hne).other _ _ hne).other _ _ hne)
theorem below_putSig {B : Nat} {w0 w : World} {g : Nat} (hb : Below B w0 w) (hg : B ≤ g) (y : Nat) : Below B w0 (putSig w g y) := ((((((hb.setCell hg _).setCell hg _).setCell hg _).setCell hg _).setCell hg _).setCell hg _)
set_option maxHeartbeats 3200000 in
set_option maxRecDepth 100000 in
theorem kindUnpack_2 (f b e t p : Nat) (em : Int) (neg : Bool) (w : World) (hT : Tab w) (he : e ≤ 32767) (hp : p ≤ 113) (hm1 : -16382 ≤ em) (hm2 : em ≤ 0)
    (cM : ∀ w, Calls Tryd.prog 86 #[.int .u8 f] w fun e' w' => e' = .returned (.int .i64 em) ∧ Below w.heap.size w w')
    (cT : ∀ w, Calls Tryd.prog 22 #[.int .u8 f, BV b] w fun e' w' => e' = .returned (.bool true) ∧ Below w.heap.size w w')
    (cP : ∀ w, Calls Tryd.prog 65 #[.int .u8 f] w fun e' w' => e' = .returned (.int .i64 (p : Nat)) ∧ Below w.heap.size w w')
    (cF : ∀ w, Tab w → Calls Tryd.prog 108 #[.int .u8 f, BV b] w fun e' w' => e' = .returned (.tuple #[.bool neg, .int .i64 (e : Nat), W t]) ∧ Below w.heap.size w w')
    (cC : ∀ w, Tab w → Calls Tryd.prog 94 #[.int .u8 f, BV b] w fun e' w' => e' = .returned (.int .u8 2) ∧ Below w.heap.size w w') :
    Calls Tryd.prog 91 #[.int .u8 f, BV b] w fun e' w' => e' = .returned (.tuple #[PV 2 t ((e : Int) + em - (p : Int) + 1) 0, .int .i64 0]) ∧ Below w.heap.size w w' := by
  have HT := Lib.hid hT
  clear hT
  have he' : (e : Int) ≤ 32767 := by omega
  have he0 : (0 : Int) ≤ (e : Int) := by omega
  have hp' : (p : Int) ≤ 113 := by omega
  have hp0 : (0 : Int) ≤ (p : Int) := by omega
  go_enter Tryd.func91, Tryd.ntmps91
  go_wp2_with fail
  refine (cT _).mono ?_
  rintro e' w1 ⟨rfl, hb1⟩
  go_wp2_with fail
  refine (cP _).mono ?_
  rintro e' w2 ⟨rfl, hb2⟩
  have b4 : Blk 72 w2 (w.heap.size + 1) (parts 0 0 0 0) := by
    rw [parts_zero]
    have := (Blk.new (T := 72) (w.alloc (.cells #[.int .u64 (limb b 1), .int .u64 (limb b 0)] 27 (0, 0))) #[.int .u8 0, .int .u64 0, .int .u64 0, .int .u64 0, .int .u64 0, .int .u64 0, .int .u64 0, .int .i64 0, .int .u64 0, .int .u64 0, .int .u64 0, .int .u64 0, .int .u64 0, .int .u64 0]).below hb1 (by simp)
    have := this.below hb2 this.lt
    simpa using this
  have b3 : Blk 27 w2 w.heap.size #[.int .u64 (limb b 1), .int .u64 (limb b 0)] := by
    have h1 := ((Blk.new (T := 27) w #[.int .u64 (limb b 1), .int .u64 (limb b 0)]).alloc (.cells #[.int .u8 0, .int .u64 0, .int .u64 0, .int .u64 0, .int .u64 0, .int .u64 0, .int .u64 0, .int .i64 0, .int .u64 0, .int .u64 0, .int .u64 0, .int .u64 0, .int .u64 0, .int .u64 0] 72 (0, 0))).below hb1 (by simp <;> omega)
    exact h1.below hb2 h1.lt
  have hw2 := ((((Below.refl w.heap.size w).alloc (Nat.le_refl _) (.cells #[.int .u64 (limb b 1), .int .u64 (limb b 0)] 27 (0, 0))).alloc (by simp) (.cells #[.int .u8 0, .int .u64 0, .int .u64 0, .int .u64 0, .int .u64 0, .int .u64 0, .int .u64 0, .int .i64 0, .int .u64 0, .int .u64 0, .int .u64 0, .int .u64 0, .int .u64 0, .int .u64 0] 72 (0, 0))).trans (hb1.mono (by simp <;> omega))).trans (hb2.mono (by have := hb1.size; simp at this; omega))
  clear hb1 hb2
  have g0 := b3.cell 0 rfl
  have g1 := b3.cell 1 rfl
  go_wp2_with fail
  refine (cF _ (HT.out.below hw2)).mono ?_
  rintro e' w3 ⟨rfl, hb3⟩
  replace hw2 := (hw2.trans (hb3.mono (Nat.le_of_lt b3.lt))).alloc (by have := b3.lt; have := hb3.size; omega) (.cells (limbs t) 54 (0, 0))
  replace b4 := (b4.below hb3 b4.lt).alloc (.cells (limbs t) 54 (0, 0))
  replace b3 := (b3.below hb3 b3.lt).alloc (.cells (limbs t) 54 (0, 0))
  have b9 := Blk.new (T := 54) w3 (limbs t)
  clear g0 g1 hb3
  go_upto_region 5 with (fail)
  change Code.wp _ _ _ _ (w3.alloc (.cells (limbs t) 54 (0, 0)))
  generalize w3.alloc (.cells (limbs t) 54 (0, 0)) = v at *
  have g0 := b3.cell 0 rfl
  have g1 := b3.cell 1 rfl
  go_wp2_with fail
  refine (cC _ (HT.out.below hw2)).mono ?_
  rintro e' w4 ⟨rfl, hb4⟩
  replace hw2 := (hw2.trans (hb4.mono (Nat.le_of_lt b3.lt))).alloc (by have := b3.lt; have := hb4.size; omega) (.cells (parts 2 0 0 0) 72 (0, 0))
  have nE : w.heap.size + 1 < w4.heap.size := (b4.below hb4 b4.lt).lt
  replace b4 := (b4.below hb4 b4.lt).alloc (.cells (parts 2 0 0 0) 72 (0, 0))
  replace b9 := (b9.below hb4 b9.lt).alloc (.cells (parts 2 0 0 0) 72 (0, 0))
  have b10 := Blk.new (T := 72) w4 (parts 2 0 0 0)
  clear g0 g1 hb4 b3
  go_upto_region 6 with (fail)
  rw [← show parts 2 0 0 0 = #[.int .u8 2, .int .u64 0, .int .u64 0, .int .u64 0, .int .u64 0, .int .u64 0, .int .u64 0, .int .i64 0, .int .u64 0, .int .u64 0, .int .u64 0, .int .u64 0, .int .u64 0, .int .u64 0] from parts_zero 2]
  generalize w4.alloc (.cells (parts 2 0 0 0) 72 (0, 0)) = v at *
  obtain ⟨d0, d1, d2, d3, d4, d5, d6, d7, d8, d9, d10, d11, d12, d13⟩ := b10.p14
  obtain ⟨c0, c1, c2, c3, c4, c5, c6, c7, c8, c9, c10, c11, c12, c13⟩ := b4.p14
  obtain ⟨n0, n1, n2, n3, n4, n5, n6, n7, n8, n9, n10, n11, n12, n13⟩ := b4.free14
  simp only [limb_zero] at d0 d1 d2 d3 d4 d5 d6 d7 d8 d9 d10 d11 d12 d13 c0 c1 c2 c3 c4 c5 c6 c7 c8 c9 c10 c11 c12 c13
  replace d0 : v.cell? ⟨w4.heap.size, 0, none⟩ = some (.int .u8 2) := d0
  replace c0 : v.cell? ⟨w.heap.size + 1, 0, none⟩ = some (.int .u8 0) := c0
  obtain ⟨m0, m1, m2, m3, m4, m5⟩ := b9.six
  obtain ⟨k0, k1, k2, k3, k4, k5, k6, k7, k8, k9, k10, k11, k12, k13⟩ := b10.free14
  have B10 := Lib.hid b10
  have B4 := Lib.hid b4
  clear b10 b9 b4 cT cP cF cC
  have HW := Lib.hid hw2
  have NE := Lib.hid nE
  clear hw2 nE
  go_upto_region 17 with (fail)
  have b10 := B10.out.putSig t
  have b4 := B4.out.putSig_other t (Nat.ne_of_lt NE.out)
  have hw := below_putSig HW.out (by have := NE.out; omega : w.heap.size ≤ w4.heap.size) t
  clear B10 B4 HW d0 d1 d2 d3 d4 d5 d6 d7 d8 d9 d10 d11 d12 d13 c0 c1 c2 c3 c4 c5 c6 c7 c8 c9 c10 c11 c12 c13 n0 n1 n2 n3 n4 n5 n6 n7 n8 n9 n10 n11 n12 n13 k0 k1 k2 k3 k4 k5 k6 k7 k8 k9 k10 k11 k12 k13 m0 m1 m2 m3 m4 m5
  change Code.wp _ _ _ _ (putSig v w4.heap.size t)
  generalize putSig v w4.heap.size t = u at *
  have hs := b10.lt
  go_upto_region 18 with (go_at_call 86; refine (cM _).mono ?_; rintro e' w5 ⟨rfl, hb5⟩; have q7 := (b10.below hb5 hs).cell 7 rfl; have y7 := (b10.below hb5 hs).free 7)
  have b10' := ((b10.below hb5 hs).set 7 (.int .i64 ((e : Int) + em - (p : Int) + 1)) rfl).cast (show _ = parts 2 t ((e : Int) + em - (p : Int) + 1) 0 by simp [parts])
  have b4' := (b4.below hb5 b4.lt).other ⟨w4.heap.size, 7, none⟩ (.int .i64 ((e : Int) + em - (p : Int) + 1)) (Nat.ne_of_lt NE.out)
  have hw' := (hw.trans (hb5.mono (by have := NE.out; omega))).setCell (p := ⟨w4.heap.size, 7, none⟩) (by have := NE.out; show w.heap.size ≤ w4.heap.size; omega) (.int .i64 ((e : Int) + em - (p : Int) + 1))
  clear q7 y7 b10 b4 hw hb5 hs
  generalize w5.setCell ⟨w4.heap.size, 7, none⟩ (.int .i64 ((e : Int) + em - (p : Int) + 1)) = u2 at *
  generalize hX : ((e : Int) + em - (p : Int) + 1) = X at *
  have HX := Lib.hid hX
  clear hX
  obtain ⟨d0, d1, d2, d3, d4, d5, d6, d7, d8, d9, d10, d11, d12, d13⟩ := b10'.p14
  obtain ⟨c0, c1, c2, c3, c4, c5, c6, c7, c8, c9, c10, c11, c12, c13⟩ := b4'.p14
  obtain ⟨n0, n1, n2, n3, n4, n5, n6, n7, n8, n9, n10, n11, n12, n13⟩ := b4'.free14
  simp only [limb_zero] at d0 d1 d2 d3 d4 d5 d6 d7 d8 d9 d10 d11 d12 d13 c0 c1 c2 c3 c4 c5 c6 c7 c8 c9 c10 c11 c12 c13
  replace d0 : u2.cell? ⟨w4.heap.size, 0, none⟩ = some (.int .u8 2) := d0
  replace c0 : u2.cell? ⟨w.heap.size + 1, 0, none⟩ = some (.int .u8 0) := c0
  clear b10' b4' he hp hm1 hm2 he' he0 hp' hp0 cM
  have HW := Lib.hid hw'
  clear hw'
  go_wp2_with fail
  have hb := below_put14 HW.out (by omega : w.heap.size ≤ w.heap.size + 1) 2 t X 0
  unfold put14 at hb
  simp only [limb_zero] at hb
  exact bodyPost_ret (v := .tuple #[PV 2 t X 0, .int .i64 0]) (by simp [results, Tryd.results91, go_sem, parts, limb_zero, c0, c1, c2, c3, c4, c5, c6, c7, c8, c9, c10, c11, c12, c13]) rfl ⟨by rw [HX.out], hb⟩
set_option maxHeartbeats 3200000 in
set_option maxRecDepth 100000 in
theorem kindUnpack_5 (f b e t p : Nat) (em : Int) (neg : Bool) (w : World) (hT : Tab w) (he : e ≤ 32767) (hp : p ≤ 113) (hm1 : -16382 ≤ em) (hm2 : em ≤ 0)
    (cM : ∀ w, Calls Tryd.prog 86 #[.int .u8 f] w fun e' w' => e' = .returned (.int .i64 em) ∧ Below w.heap.size w w')
    (cT : ∀ w, Calls Tryd.prog 22 #[.int .u8 f, BV b] w fun e' w' => e' = .returned (.bool true) ∧ Below w.heap.size w w')
    (cP : ∀ w, Calls Tryd.prog 65 #[.int .u8 f] w fun e' w' => e' = .returned (.int .i64 (p : Nat)) ∧ Below w.heap.size w w')
    (cF : ∀ w, Tab w → Calls Tryd.prog 108 #[.int .u8 f, BV b] w fun e' w' => e' = .returned (.tuple #[.bool neg, .int .i64 (e : Nat), W t]) ∧ Below w.heap.size w w')
    (cC : ∀ w, Tab w → Calls Tryd.prog 94 #[.int .u8 f, BV b] w fun e' w' => e' = .returned (.int .u8 5) ∧ Below w.heap.size w w') :
    Calls Tryd.prog 91 #[.int .u8 f, BV b] w fun e' w' => e' = .returned (.tuple #[PV 5 t ((e : Int) + em - (p : Int) + 1) 0, .int .i64 0]) ∧ Below w.heap.size w w' := by
  have HT := Lib.hid hT
  clear hT
  have he' : (e : Int) ≤ 32767 := by omega
  have he0 : (0 : Int) ≤ (e : Int) := by omega
  have hp' : (p : Int) ≤ 113 := by omega
  have hp0 : (0 : Int) ≤ (p : Int) := by omega
  go_enter Tryd.func91, Tryd.ntmps91
  go_wp2_with fail
  refine (cT _).mono ?_
  rintro e' w1 ⟨rfl, hb1⟩
  go_wp2_with fail
  refine (cP _).mono ?_
  rintro e' w2 ⟨rfl, hb2⟩
  have b4 : Blk 72 w2 (w.heap.size + 1) (parts 0 0 0 0) := by
    rw [parts_zero]
    have := (Blk.new (T := 72) (w.alloc (.cells #[.int .u64 (limb b 1), .int .u64 (limb b 0)] 27 (0, 0))) #[.int .u8 0, .int .u64 0, .int .u64 0, .int .u64 0, .int .u64 0, .int .u64 0, .int .u64 0, .int .i64 0, .int .u64 0, .int .u64 0, .int .u64 0, .int .u64 0, .int .u64 0, .int .u64 0]).below hb1 (by simp)
    have := this.below hb2 this.lt
    simpa using this
  have b3 : Blk 27 w2 w.heap.size #[.int .u64 (limb b 1), .int .u64 (limb b 0)] := by
    have h1 := ((Blk.new (T := 27) w #[.int .u64 (limb b 1), .int .u64 (limb b 0)]).alloc (.cells #[.int .u8 0, .int .u64 0, .int .u64 0, .int .u64 0, .int .u64 0, .int .u64 0, .int .u64 0, .int .i64 0, .int .u64 0, .int .u64 0, .int .u64 0, .int .u64 0, .int .u64 0, .int .u64 0] 72 (0, 0))).below hb1 (by simp <;> omega)
    exact h1.below hb2 h1.lt
  have hw2 := ((((Below.refl w.heap.size w).alloc (Nat.le_refl _) (.cells #[.int .u64 (limb b 1), .int .u64 (limb b 0)] 27 (0, 0))).alloc (by simp) (.cells #[.int .u8 0, .int .u64 0, .int .u64 0, .int .u64 0, .int .u64 0, .int .u64 0, .int .u64 0, .int .i64 0, .int .u64 0, .int .u64 0, .int .u64 0, .int .u64 0, .int .u64 0, .int .u64 0] 72 (0, 0))).trans (hb1.mono (by simp <;> omega))).trans (hb2.mono (by have := hb1.size; simp at this; omega))
  clear hb1 hb2
  have g0 := b3.cell 0 rfl
  have g1 := b3.cell 1 rfl
  go_wp2_with fail
  refine (cF _ (HT.out.below hw2)).mono ?_
  rintro e' w3 ⟨rfl, hb3⟩
  replace hw2 := (hw2.trans (hb3.mono (Nat.le_of_lt b3.lt))).alloc (by have := b3.lt; have := hb3.size; omega) (.cells (limbs t) 54 (0, 0))
  replace b4 := (b4.below hb3 b4.lt).alloc (.cells (limbs t) 54 (0, 0))
  replace b3 := (b3.below hb3 b3.lt).alloc (.cells (limbs t) 54 (0, 0))
  have b9 := Blk.new (T := 54) w3 (limbs t)
  clear g0 g1 hb3
  go_upto_region 5 with (fail)
  change Code.wp _ _ _ _ (w3.alloc (.cells (limbs t) 54 (0, 0)))
  generalize w3.alloc (.cells (limbs t) 54 (0, 0)) = v at *
  have g0 := b3.cell 0 rfl
  have g1 := b3.cell 1 rfl
  go_wp2_with fail
  refine (cC _ (HT.out.below hw2)).mono ?_
  rintro e' w4 ⟨rfl, hb4⟩
  replace hw2 := (hw2.trans (hb4.mono (Nat.le_of_lt b3.lt))).alloc (by have := b3.lt; have := hb4.size; omega) (.cells (parts 5 0 0 0) 72 (0, 0))
  have nE : w.heap.size + 1 < w4.heap.size := (b4.below hb4 b4.lt).lt
  replace b4 := (b4.below hb4 b4.lt).alloc (.cells (parts 5 0 0 0) 72 (0, 0))
  replace b9 := (b9.below hb4 b9.lt).alloc (.cells (parts 5 0 0 0) 72 (0, 0))
  have b10 := Blk.new (T := 72) w4 (parts 5 0 0 0)
  clear g0 g1 hb4 b3
  go_upto_region 6 with (fail)
  rw [← show parts 5 0 0 0 = #[.int .u8 5, .int .u64 0, .int .u64 0, .int .u64 0, .int .u64 0, .int .u64 0, .int .u64 0, .int .i64 0, .int .u64 0, .int .u64 0, .int .u64 0, .int .u64 0, .int .u64 0, .int .u64 0] from parts_zero 5]
  generalize w4.alloc (.cells (parts 5 0 0 0) 72 (0, 0)) = v at *
  obtain ⟨d0, d1, d2, d3, d4, d5, d6, d7, d8, d9, d10, d11, d12, d13⟩ := b10.p14
  obtain ⟨c0, c1, c2, c3, c4, c5, c6, c7, c8, c9, c10, c11, c12, c13⟩ := b4.p14
  obtain ⟨n0, n1, n2, n3, n4, n5, n6, n7, n8, n9, n10, n11, n12, n13⟩ := b4.free14
  simp only [limb_zero] at d0 d1 d2 d3 d4 d5 d6 d7 d8 d9 d10 d11 d12 d13 c0 c1 c2 c3 c4 c5 c6 c7 c8 c9 c10 c11 c12 c13
  replace d0 : v.cell? ⟨w4.heap.size, 0, none⟩ = some (.int .u8 5) := d0
  replace c0 : v.cell? ⟨w.heap.size + 1, 0, none⟩ = some (.int .u8 0) := c0
  obtain ⟨m0, m1, m2, m3, m4, m5⟩ := b9.six
  obtain ⟨k0, k1, k2, k3, k4, k5, k6, k7, k8, k9, k10, k11, k12, k13⟩ := b10.free14
  have B10 := Lib.hid b10
  have B4 := Lib.hid b4
  clear b10 b9 b4 cT cP cF cC
  have HW := Lib.hid hw2
  have NE := Lib.hid nE
  clear hw2 nE
  go_upto_region 17 with (fail)
  have b10 := B10.out.putSig t
  have b4 := B4.out.putSig_other t (Nat.ne_of_lt NE.out)
  have hw := below_putSig HW.out (by have := NE.out; omega : w.heap.size ≤ w4.heap.size) t
  clear B10 B4 HW d0 d1 d2 d3 d4 d5 d6 d7 d8 d9 d10 d11 d12 d13 c0 c1 c2 c3 c4 c5 c6 c7 c8 c9 c10 c11 c12 c13 n0 n1 n2 n3 n4 n5 n6 n7 n8 n9 n10 n11 n12 n13 k0 k1 k2 k3 k4 k5 k6 k7 k8 k9 k10 k11 k12 k13 m0 m1 m2 m3 m4 m5
  change Code.wp _ _ _ _ (putSig v w4.heap.size t)
  generalize putSig v w4.heap.size t = u at *
  have hs := b10.lt
  go_upto_region 18 with (go_at_call 86; refine (cM _).mono ?_; rintro e' w5 ⟨rfl, hb5⟩; have q7 := (b10.below hb5 hs).cell 7 rfl; have y7 := (b10.below hb5 hs).free 7)
  have b10' := ((b10.below hb5 hs).set 7 (.int .i64 ((e : Int) + em - (p : Int) + 1)) rfl).cast (show _ = parts 5 t ((e : Int) + em - (p : Int) + 1) 0 by simp [parts])
  have b4' := (b4.below hb5 b4.lt).other ⟨w4.heap.size, 7, none⟩ (.int .i64 ((e : Int) + em - (p : Int) + 1)) (Nat.ne_of_lt NE.out)
  have hw' := (hw.trans (hb5.mono (by have := NE.out; omega))).setCell (p := ⟨w4.heap.size, 7, none⟩) (by have := NE.out; show w.heap.size ≤ w4.heap.size; omega) (.int .i64 ((e : Int) + em - (p : Int) + 1))
  clear q7 y7 b10 b4 hw hb5 hs
  generalize w5.setCell ⟨w4.heap.size, 7, none⟩ (.int .i64 ((e : Int) + em - (p : Int) + 1)) = u2 at *
  generalize hX : ((e : Int) + em - (p : Int) + 1) = X at *
  have HX := Lib.hid hX
  clear hX
  obtain ⟨d0, d1, d2, d3, d4, d5, d6, d7, d8, d9, d10, d11, d12, d13⟩ := b10'.p14
  obtain ⟨c0, c1, c2, c3, c4, c5, c6, c7, c8, c9, c10, c11, c12, c13⟩ := b4'.p14
  obtain ⟨n0, n1, n2, n3, n4, n5, n6, n7, n8, n9, n10, n11, n12, n13⟩ := b4'.free14
  simp only [limb_zero] at d0 d1 d2 d3 d4 d5 d6 d7 d8 d9 d10 d11 d12 d13 c0 c1 c2 c3 c4 c5 c6 c7 c8 c9 c10 c11 c12 c13
  replace d0 : u2.cell? ⟨w4.heap.size, 0, none⟩ = some (.int .u8 5) := d0
  replace c0 : u2.cell? ⟨w.heap.size + 1, 0, none⟩ = some (.int .u8 0) := c0
  clear b10' b4' he hp hm1 hm2 he' he0 hp' hp0 cM
  have HW := Lib.hid hw'
  clear hw'
  go_wp2_with fail
  have hb := below_put14 HW.out (by omega : w.heap.size ≤ w.heap.size + 1) 5 t X 0
  unfold put14 at hb
  simp only [limb_zero] at hb
  exact bodyPost_ret (v := .tuple #[PV 5 t X 0, .int .i64 0]) (by simp [results, Tryd.results91, go_sem, parts, limb_zero, c0, c1, c2, c3, c4, c5, c6, c7, c8, c9, c10, c11, c12, c13]) rfl ⟨by rw [HX.out], hb⟩
end Go.Proofs.YtdcgcjmajacgiaaDoor

namespace Go.Proofs.YtdcgcjmajacgiaaDoor
open Go.RowKit
theorem limbN_addpow (t i s j : Nat) (ht : t < 2 ^ (64 * i + s)) (hs : s < 64) :
    limbN (t + 2 ^ (64 * i + s)) j = if j = i then limbN t i + 2 ^ s else limbN t j := by
  have hp : 2 ^ (64 * i + s) = 2 ^ s * 2 ^ (64 * i) := by rw [Nat.pow_add, Nat.mul_comm]
  have h64 : 2 ^ s < 18446744073709551616 := by rw [B64]; exact Nat.pow_lt_pow_right (by decide) hs
  rcases Nat.lt_trichotomy j i with h | h | h
  · rw [if_neg (by omega)]
    unfold limbN
    rw [hp, show 64 * i = 64 * j + (64 + 64 * (i - j - 1)) by omega, Nat.pow_add, Nat.pow_add 2 64, Nat.mul_left_comm, Nat.add_mul_div_left _ _ (pw_pos j), ← B64, Nat.mul_left_comm, Nat.add_mul_mod_self_left]
  · subst h
    rw [if_pos rfl]
    unfold limbN
    have hq : t / 2 ^ (64 * j) < 2 ^ s := by rw [Nat.div_lt_iff_lt_mul (pw_pos j), ← hp]; exact ht
    have hs2 : 2 ^ s + 2 ^ s ≤ 18446744073709551616 := by rw [← Nat.two_mul, Nat.mul_comm, ← Nat.pow_succ, B64]; exact Nat.pow_le_pow_right (by decide) hs
    rw [hp, Nat.mul_comm, Nat.add_mul_div_left _ _ (pw_pos j), Nat.mod_eq_of_lt (by omega : t / 2 ^ (64 * j) < _), Nat.mod_eq_of_lt (by omega)]
  · rw [if_neg (by omega)]
    have big : ∀ y, y < 2 ^ (64 * j) → limbN y j = 0 := fun y hy => by unfold limbN; rw [Nat.div_eq_of_lt hy]
    have hle : 2 ^ (64 * i + s) + 2 ^ (64 * i + s) ≤ 2 ^ (64 * j) := by
      rw [← Nat.two_mul, Nat.mul_comm, ← Nat.pow_succ]; exact Nat.pow_le_pow_right (by decide) (by omega)
    rw [big _ (by omega), big _ (by omega)]
theorem bits_or_top (x s : Nat) (hx : x < 2 ^ s) (hs : s < 64) : Go.bits .or .u64 (x : Int) (IntKind.u64.wrap (2 ^ s)) = ((x + 2 ^ s : Nat) : Int) := by
  have h64 : 2 ^ s < 18446744073709551616 := by rw [B64]; exact Nat.pow_lt_pow_right (by decide) hs
  rw [show (2 : Int) ^ s = ((2 ^ s : Nat) : Int) by simp, show IntKind.u64.wrap ((2 ^ s : Nat) : Int) = ((2 ^ s : Nat) : Int) by rw [IntKind.wrap_u64]; omega, u64_or_nat _ _ (by omega) h64]
  congr 1
  have := Nat.two_pow_add_eq_or_of_lt hx 1
  rw [Nat.mul_one] at this
  rw [Nat.or_comm, ← this, Nat.add_comm]
theorem limbs_top (t i s : Nat) (ht : t < 2 ^ (64 * i + s)) (hs : s < 64) (hi : i < 6) :
    (limbs t).setIfInBounds i (.int .u64 (Go.bits .or .u64 (limb t i) (IntKind.u64.wrap (2 ^ s)))) = limbs (t + 2 ^ (64 * i + s)) := by
  have hx : limbN t i < 2 ^ s := by
    unfold limbN
    refine Nat.lt_of_le_of_lt (Nat.mod_le _ _) ?_
    rw [Nat.div_lt_iff_lt_mul (pw_pos i), ← Nat.pow_add, Nat.add_comm]; exact ht
  have e : Go.bits .or .u64 (limb t i) (IntKind.u64.wrap (2 ^ s)) = ((limbN t i + 2 ^ s : Nat) : Int) := bits_or_top _ s hx hs
  rw [e]
  apply Array.ext_getElem?
  intro j
  by_cases hj : j < 6
  · rw [limbs_get _ j hj, Array.getElem?_setIfInBounds]
    unfold limb
    rw [limbN_addpow t i s j ht hs]
    by_cases h : i = j
    · subst h
      rw [if_pos rfl, if_pos (by rw [limbs_size]; exact hi), if_pos rfl]
    · rw [if_neg h, if_neg (by omega)]
      exact limbs_get t j hj
  · rw [Array.getElem?_eq_none (by rw [Array.size_setIfInBounds, limbs_size]; omega), Array.getElem?_eq_none (by rw [limbs_size]; omega)]
end Go.Proofs.YtdcgcjmajacgiaaDoor

namespace Go.Proofs.YtdcgcjmajacgiaaDoor
open Go.RowKit
set_option maxHeartbeats 3200000 in
set_option maxRecDepth 100000 in
theorem kindUnpack_1_0 (f b e t p : Nat) (em : Int) (neg : Bool) (w : World) (hT : Tab w) (s : Nat) (he : e ≤ 32767) (he1 : 1 ≤ e) (hs64 : s < 64) (htq : t < 2 ^ (64 * 0 + s)) (hqi : ((p : Int) - 1) / 64 = 0) (hqs : ((p : Int) - 1) % 64 = (s : Int)) (hp1 : 11 ≤ p) (hp : p ≤ 113) (hm1 : -16382 ≤ em) (hm2 : em ≤ 0)
    (cM : ∀ w, Calls Tryd.prog 86 #[.int .u8 f] w fun e' w' => e' = .returned (.int .i64 em) ∧ Below w.heap.size w w')
    (cT : ∀ w, Calls Tryd.prog 22 #[.int .u8 f, BV b] w fun e' w' => e' = .returned (.bool true) ∧ Below w.heap.size w w')
    (cP : ∀ w, Calls Tryd.prog 65 #[.int .u8 f] w fun e' w' => e' = .returned (.int .i64 (p : Nat)) ∧ Below w.heap.size w w')
    (cF : ∀ w, Tab w → Calls Tryd.prog 108 #[.int .u8 f, BV b] w fun e' w' => e' = .returned (.tuple #[.bool neg, .int .i64 (e : Nat), W t]) ∧ Below w.heap.size w w')
    (cC : ∀ w, Tab w → Calls Tryd.prog 94 #[.int .u8 f, BV b] w fun e' w' => e' = .returned (.int .u8 1) ∧ Below w.heap.size w w') :
    Calls Tryd.prog 91 #[.int .u8 f, BV b] w fun e' w' => e' = .returned (.tuple #[PV 1 (t + 2 ^ (64 * 0 + s)) ((e : Int) - 1 + em - (p : Int) + 1) 0, .int .i64 0]) ∧ Below w.heap.size w w' := by
  have HT := Lib.hid hT
  clear hT
  have he' : (e : Int) ≤ 32767 := by omega
  have he0 : (0 : Int) ≤ (e : Int) := by omega
  have hp' : (p : Int) ≤ 113 := by omega
  have hp0 : (11 : Int) ≤ (p : Int) := by omega
  have he1' : (1 : Int) ≤ (e : Int) := by omega
  have HS := Lib.hid hs64
  have HTQ := Lib.hid htq
  have s64 : (s : Int) < 64 := by omega
  clear htq hs64
  go_enter Tryd.func91, Tryd.ntmps91
  go_wp2_with fail
  refine (cT _).mono ?_
  rintro e' w1 ⟨rfl, hb1⟩
  go_wp2_with fail
  refine (cP _).mono ?_
  rintro e' w2 ⟨rfl, hb2⟩
  have b4 : Blk 72 w2 (w.heap.size + 1) (parts 0 0 0 0) := by
    rw [parts_zero]
    have := (Blk.new (T := 72) (w.alloc (.cells #[.int .u64 (limb b 1), .int .u64 (limb b 0)] 27 (0, 0))) #[.int .u8 0, .int .u64 0, .int .u64 0, .int .u64 0, .int .u64 0, .int .u64 0, .int .u64 0, .int .i64 0, .int .u64 0, .int .u64 0, .int .u64 0, .int .u64 0, .int .u64 0, .int .u64 0]).below hb1 (by simp)
    have := this.below hb2 this.lt
    simpa using this
  have b3 : Blk 27 w2 w.heap.size #[.int .u64 (limb b 1), .int .u64 (limb b 0)] := by
    have h1 := ((Blk.new (T := 27) w #[.int .u64 (limb b 1), .int .u64 (limb b 0)]).alloc (.cells #[.int .u8 0, .int .u64 0, .int .u64 0, .int .u64 0, .int .u64 0, .int .u64 0, .int .u64 0, .int .i64 0, .int .u64 0, .int .u64 0, .int .u64 0, .int .u64 0, .int .u64 0, .int .u64 0] 72 (0, 0))).below hb1 (by simp <;> omega)
    exact h1.below hb2 h1.lt
  have hw2 := ((((Below.refl w.heap.size w).alloc (Nat.le_refl _) (.cells #[.int .u64 (limb b 1), .int .u64 (limb b 0)] 27 (0, 0))).alloc (by simp) (.cells #[.int .u8 0, .int .u64 0, .int .u64 0, .int .u64 0, .int .u64 0, .int .u64 0, .int .u64 0, .int .i64 0, .int .u64 0, .int .u64 0, .int .u64 0, .int .u64 0, .int .u64 0, .int .u64 0] 72 (0, 0))).trans (hb1.mono (by simp <;> omega))).trans (hb2.mono (by have := hb1.size; simp at this; omega))
  clear hb1 hb2
  have g0 := b3.cell 0 rfl
  have g1 := b3.cell 1 rfl
  go_wp2_with fail
  refine (cF _ (HT.out.below hw2)).mono ?_
  rintro e' w3 ⟨rfl, hb3⟩
  replace hw2 := (hw2.trans (hb3.mono (Nat.le_of_lt b3.lt))).alloc (by have := b3.lt; have := hb3.size; omega) (.cells (limbs t) 54 (0, 0))
  have l4 := (b4.below hb3 b4.lt).lt
  replace b4 := (b4.below hb3 b4.lt).alloc (.cells (limbs t) 54 (0, 0))
  replace b3 := (b3.below hb3 b3.lt).alloc (.cells (limbs t) 54 (0, 0))
  have b9 := Blk.new (T := 54) w3 (limbs t)
  clear g0 g1 hb3
  go_upto_region 5 with (fail)
  change Code.wp _ _ _ _ (w3.alloc (.cells (limbs t) 54 (0, 0)))
  generalize w3.alloc (.cells (limbs t) 54 (0, 0)) = v at *
  have g0 := b3.cell 0 rfl
  have g1 := b3.cell 1 rfl
  go_wp2_with fail
  refine (cC _ (HT.out.below hw2)).mono ?_
  rintro e' w4 ⟨rfl, hb4⟩
  replace hw2 := (hw2.trans (hb4.mono (Nat.le_of_lt b3.lt))).alloc (by have := b3.lt; have := hb4.size; omega) (.cells (parts 1 0 0 0) 72 (0, 0))
  have n39 : w3.heap.size < w4.heap.size := (b9.below hb4 b9.lt).lt
  have n94 : w.heap.size + 1 < w3.heap.size := l4
  have nE : w.heap.size + 1 < w4.heap.size := (b4.below hb4 b4.lt).lt
  replace b4 := (b4.below hb4 b4.lt).alloc (.cells (parts 1 0 0 0) 72 (0, 0))
  replace b9 := (b9.below hb4 b9.lt).alloc (.cells (parts 1 0 0 0) 72 (0, 0))
  have b10 := Blk.new (T := 72) w4 (parts 1 0 0 0)
  clear g0 g1 hb4 b3
  go_upto_region 6 with (fail)
  rw [← show parts 1 0 0 0 = #[.int .u8 1, .int .u64 0, .int .u64 0, .int .u64 0, .int .u64 0, .int .u64 0, .int .u64 0, .int .i64 0, .int .u64 0, .int .u64 0, .int .u64 0, .int .u64 0, .int .u64 0, .int .u64 0] from parts_zero 1]
  generalize w4.alloc (.cells (parts 1 0 0 0) 72 (0, 0)) = v at *
  obtain ⟨d0, d1, d2, d3, d4, d5, d6, d7, d8, d9, d10, d11, d12, d13⟩ := b10.p14
  obtain ⟨c0, c1, c2, c3, c4, c5, c6, c7, c8, c9, c10, c11, c12, c13⟩ := b4.p14
  obtain ⟨n0, n1, n2, n3, n4, n5, n6, n7, n8, n9, n10, n11, n12, n13⟩ := b4.free14
  simp only [limb_zero] at d0 d1 d2 d3 d4 d5 d6 d7 d8 d9 d10 d11 d12 d13 c0 c1 c2 c3 c4 c5 c6 c7 c8 c9 c10 c11 c12 c13
  replace d0 : v.cell? ⟨w4.heap.size, 0, none⟩ = some (.int .u8 1) := d0
  replace c0 : v.cell? ⟨w.heap.size + 1, 0, none⟩ = some (.int .u8 0) := c0
  obtain ⟨m0, m1, m2, m3, m4, m5⟩ := b9.six
  obtain ⟨k0, k1, k2, k3, k4, k5, k6, k7, k8, k9, k10, k11, k12, k13⟩ := b10.free14
  have B10 := Lib.hid b10
  have B4 := Lib.hid b4
  have B9 := Lib.hid b9
  obtain ⟨z0, z1, z2, z3, z4, z5⟩ := b9.six_free
  clear b10 b9 b4 cT cP cF cC
  have HW := Lib.hid hw2
  have NE := Lib.hid nE
  have N39 := Lib.hid n39
  have N94 := Lib.hid n94
  clear hw2 nE n39 n94 l4
  go_upto_region 16 with (fail)
  have bT := B9.out.set 0 _ (limbs_top t 0 s HTQ.out HS.out (by decide))
  have bTen := B10.out.other ⟨w3.heap.size, 0, none⟩ (.int .u64 (Go.bits .or .u64 (limb t 0) (IntKind.u64.wrap (2 ^ s)))) (Nat.ne_of_gt N39.out)
  have bFour := B4.out.other ⟨w3.heap.size, 0, none⟩ (.int .u64 (Go.bits .or .u64 (limb t 0) (IntKind.u64.wrap (2 ^ s)))) (Nat.ne_of_lt N94.out)
  have hwT := HW.out.setCell (p := ⟨w3.heap.size, 0, none⟩) (by have := N94.out; show w.heap.size ≤ w3.heap.size; omega) (.int .u64 (Go.bits .or .u64 (limb t 0) (IntKind.u64.wrap (2 ^ s))))
  clear B10 B4 HW B9 HTQ HS N39 N94 d0 d1 d2 d3 d4 d5 d6 d7 d8 d9 d10 d11 d12 d13 c0 c1 c2 c3 c4 c5 c6 c7 c8 c9 c10 c11 c12 c13 n0 n1 n2 n3 n4 n5 n6 n7 n8 n9 n10 n11 n12 n13 k0 k1 k2 k3 k4 k5 k6 k7 k8 k9 k10 k11 k12 k13 m0 m1 m2 m3 m4 m5 z0 z1 z2 z3 z4 z5
  generalize v.setCell ⟨w3.heap.size, 0, none⟩ (.int .u64 (Go.bits .or .u64 (limb t 0) (IntKind.u64.wrap (2 ^ s)))) = x at *
  generalize hT2 : t + 2 ^ (64 * 0 + s) = T at *
  have HT2 := Lib.hid hT2
  have B10 := Lib.hid bTen
  have B4 := Lib.hid bFour
  have HW := Lib.hid hwT
  obtain ⟨m0, m1, m2, m3, m4, m5⟩ := bT.six
  obtain ⟨d0, d1, d2, d3, d4, d5, d6, d7, d8, d9, d10, d11, d12, d13⟩ := bTen.p14
  obtain ⟨k0, k1, k2, k3, k4, k5, k6, k7, k8, k9, k10, k11, k12, k13⟩ := bTen.free14
  obtain ⟨c0, c1, c2, c3, c4, c5, c6, c7, c8, c9, c10, c11, c12, c13⟩ := bFour.p14
  obtain ⟨n0, n1, n2, n3, n4, n5, n6, n7, n8, n9, n10, n11, n12, n13⟩ := bFour.free14
  simp only [limb_zero] at d0 d1 d2 d3 d4 d5 d6 d7 d8 d9 d10 d11 d12 d13
  clear bT bTen bFour hwT hT2 hqi hqs s64
  go_upto_region 17 with (fail)
  have b10 := B10.out.putSig T
  have b4 := B4.out.putSig_other T (Nat.ne_of_lt NE.out)
  have hw := below_putSig HW.out (by have := NE.out; omega : w.heap.size ≤ w4.heap.size) T
  clear B10 B4 HW d0 d1 d2 d3 d4 d5 d6 d7 d8 d9 d10 d11 d12 d13 c0 c1 c2 c3 c4 c5 c6 c7 c8 c9 c10 c11 c12 c13 n0 n1 n2 n3 n4 n5 n6 n7 n8 n9 n10 n11 n12 n13 k0 k1 k2 k3 k4 k5 k6 k7 k8 k9 k10 k11 k12 k13 m0 m1 m2 m3 m4 m5
  change Code.wp _ _ _ _ (putSig x w4.heap.size T)
  generalize putSig x w4.heap.size T = u at *
  have hs := b10.lt
  go_upto_region 18 with (go_at_call 86; refine (cM _).mono ?_; rintro e' w5 ⟨rfl, hb5⟩; have q7 := (b10.below hb5 hs).cell 7 rfl; have y7 := (b10.below hb5 hs).free 7)
  have b10' := ((b10.below hb5 hs).set 7 (.int .i64 ((e : Int) - 1 + em - (p : Int) + 1)) rfl).cast (show _ = parts 1 T ((e : Int) - 1 + em - (p : Int) + 1) 0 by simp [parts])
  have b4' := (b4.below hb5 b4.lt).other ⟨w4.heap.size, 7, none⟩ (.int .i64 ((e : Int) - 1 + em - (p : Int) + 1)) (Nat.ne_of_lt NE.out)
  have hw' := (hw.trans (hb5.mono (by have := NE.out; omega))).setCell (p := ⟨w4.heap.size, 7, none⟩) (by have := NE.out; show w.heap.size ≤ w4.heap.size; omega) (.int .i64 ((e : Int) - 1 + em - (p : Int) + 1))
  clear q7 y7 b10 b4 hw hb5 hs
  generalize w5.setCell ⟨w4.heap.size, 7, none⟩ (.int .i64 ((e : Int) - 1 + em - (p : Int) + 1)) = u2 at *
  generalize hX : ((e : Int) - 1 + em - (p : Int) + 1) = X at *
  have HX := Lib.hid hX
  clear hX
  obtain ⟨d0, d1, d2, d3, d4, d5, d6, d7, d8, d9, d10, d11, d12, d13⟩ := b10'.p14
  obtain ⟨c0, c1, c2, c3, c4, c5, c6, c7, c8, c9, c10, c11, c12, c13⟩ := b4'.p14
  obtain ⟨n0, n1, n2, n3, n4, n5, n6, n7, n8, n9, n10, n11, n12, n13⟩ := b4'.free14
  simp only [limb_zero] at d0 d1 d2 d3 d4 d5 d6 d7 d8 d9 d10 d11 d12 d13 c0 c1 c2 c3 c4 c5 c6 c7 c8 c9 c10 c11 c12 c13
  replace d0 : u2.cell? ⟨w4.heap.size, 0, none⟩ = some (.int .u8 1) := d0
  replace c0 : u2.cell? ⟨w.heap.size + 1, 0, none⟩ = some (.int .u8 0) := c0
  clear b10' b4' he hp hm1 hm2 he' he0 hp' hp0 cM
  have HW := Lib.hid hw'
  clear hw'
  go_wp2_with fail
  have hb := below_put14 HW.out (by omega : w.heap.size ≤ w.heap.size + 1) 1 T X 0
  unfold put14 at hb
  simp only [limb_zero] at hb
  exact bodyPost_ret (v := .tuple #[PV 1 T X 0, .int .i64 0]) (by simp [results, Tryd.results91, go_sem, parts, limb_zero, c0, c1, c2, c3, c4, c5, c6, c7, c8, c9, c10, c11, c12, c13]) rfl ⟨by rw [HX.out, HT2.out], hb⟩
set_option maxHeartbeats 3200000 in
set_option maxRecDepth 100000 in
theorem kindUnpack_6_0 (f b e t p : Nat) (em : Int) (neg : Bool) (w : World) (hT : Tab w) (s : Nat) (he : e ≤ 32767) (he1 : 1 ≤ e) (hs64 : s < 64) (htq : t < 2 ^ (64 * 0 + s)) (hqi : ((p : Int) - 1) / 64 = 0) (hqs : ((p : Int) - 1) % 64 = (s : Int)) (hp1 : 11 ≤ p) (hp : p ≤ 113) (hm1 : -16382 ≤ em) (hm2 : em ≤ 0)
    (cM : ∀ w, Calls Tryd.prog 86 #[.int .u8 f] w fun e' w' => e' = .returned (.int .i64 em) ∧ Below w.heap.size w w')
    (cT : ∀ w, Calls Tryd.prog 22 #[.int .u8 f, BV b] w fun e' w' => e' = .returned (.bool true) ∧ Below w.heap.size w w')
    (cP : ∀ w, Calls Tryd.prog 65 #[.int .u8 f] w fun e' w' => e' = .returned (.int .i64 (p : Nat)) ∧ Below w.heap.size w w')
    (cF : ∀ w, Tab w → Calls Tryd.prog 108 #[.int .u8 f, BV b] w fun e' w' => e' = .returned (.tuple #[.bool neg, .int .i64 (e : Nat), W t]) ∧ Below w.heap.size w w')
    (cC : ∀ w, Tab w → Calls Tryd.prog 94 #[.int .u8 f, BV b] w fun e' w' => e' = .returned (.int .u8 6) ∧ Below w.heap.size w w') :
    Calls Tryd.prog 91 #[.int .u8 f, BV b] w fun e' w' => e' = .returned (.tuple #[PV 6 (t + 2 ^ (64 * 0 + s)) ((e : Int) - 1 + em - (p : Int) + 1) 0, .int .i64 0]) ∧ Below w.heap.size w w' := by
  have HT := Lib.hid hT
  clear hT
  have he' : (e : Int) ≤ 32767 := by omega
  have he0 : (0 : Int) ≤ (e : Int) := by omega
  have hp' : (p : Int) ≤ 113 := by omega
  have hp0 : (11 : Int) ≤ (p : Int) := by omega
  have he1' : (1 : Int) ≤ (e : Int) := by omega
  have HS := Lib.hid hs64
  have HTQ := Lib.hid htq
  have s64 : (s : Int) < 64 := by omega
  clear htq hs64
  go_enter Tryd.func91, Tryd.ntmps91
  go_wp2_with fail
  refine (cT _).mono ?_
  rintro e' w1 ⟨rfl, hb1⟩
  go_wp2_with fail
  refine (cP _).mono ?_
  rintro e' w2 ⟨rfl, hb2⟩
  have b4 : Blk 72 w2 (w.heap.size + 1) (parts 0 0 0 0) := by
    rw [parts_zero]
    have := (Blk.new (T := 72) (w.alloc (.cells #[.int .u64 (limb b 1), .int .u64 (limb b 0)] 27 (0, 0))) #[.int .u8 0, .int .u64 0, .int .u64 0, .int .u64 0, .int .u64 0, .int .u64 0, .int .u64 0, .int .i64 0, .int .u64 0, .int .u64 0, .int .u64 0, .int .u64 0, .int .u64 0, .int .u64 0]).below hb1 (by simp)
    have := this.below hb2 this.lt
    simpa using this
  have b3 : Blk 27 w2 w.heap.size #[.int .u64 (limb b 1), .int .u64 (limb b 0)] := by
    have h1 := ((Blk.new (T := 27) w #[.int .u64 (limb b 1), .int .u64 (limb b 0)]).alloc (.cells #[.int .u8 0, .int .u64 0, .int .u64 0, .int .u64 0, .int .u64 0, .int .u64 0, .int .u64 0, .int .i64 0, .int .u64 0, .int .u64 0, .int .u64 0, .int .u64 0, .int .u64 0, .int .u64 0] 72 (0, 0))).below hb1 (by simp <;> omega)
    exact h1.below hb2 h1.lt
  have hw2 := ((((Below.refl w.heap.size w).alloc (Nat.le_refl _) (.cells #[.int .u64 (limb b 1), .int .u64 (limb b 0)] 27 (0, 0))).alloc (by simp) (.cells #[.int .u8 0, .int .u64 0, .int .u64 0, .int .u64 0, .int .u64 0, .int .u64 0, .int .u64 0, .int .i64 0, .int .u64 0, .int .u64 0, .int .u64 0, .int .u64 0, .int .u64 0, .int .u64 0] 72 (0, 0))).trans (hb1.mono (by simp <;> omega))).trans (hb2.mono (by have := hb1.size; simp at this; omega))
  clear hb1 hb2
  have g0 := b3.cell 0 rfl
  have g1 := b3.cell 1 rfl
  go_wp2_with fail
  refine (cF _ (HT.out.below hw2)).mono ?_
  rintro e' w3 ⟨rfl, hb3⟩
  replace hw2 := (hw2.trans (hb3.mono (Nat.le_of_lt b3.lt))).alloc (by have := b3.lt; have := hb3.size; omega) (.cells (limbs t) 54 (0, 0))
  have l4 := (b4.below hb3 b4.lt).lt
  replace b4 := (b4.below hb3 b4.lt).alloc (.cells (limbs t) 54 (0, 0))
  replace b3 := (b3.below hb3 b3.lt).alloc (.cells (limbs t) 54 (0, 0))
  have b9 := Blk.new (T := 54) w3 (limbs t)
  clear g0 g1 hb3
  go_upto_region 5 with (fail)
  change Code.wp _ _ _ _ (w3.alloc (.cells (limbs t) 54 (0, 0)))
  generalize w3.alloc (.cells (limbs t) 54 (0, 0)) = v at *
  have g0 := b3.cell 0 rfl
  have g1 := b3.cell 1 rfl
  go_wp2_with fail
  refine (cC _ (HT.out.below hw2)).mono ?_
  rintro e' w4 ⟨rfl, hb4⟩
  replace hw2 := (hw2.trans (hb4.mono (Nat.le_of_lt b3.lt))).alloc (by have := b3.lt; have := hb4.size; omega) (.cells (parts 6 0 0 0) 72 (0, 0))
  have n39 : w3.heap.size < w4.heap.size := (b9.below hb4 b9.lt).lt
  have n94 : w.heap.size + 1 < w3.heap.size := l4
  have nE : w.heap.size + 1 < w4.heap.size := (b4.below hb4 b4.lt).lt
  replace b4 := (b4.below hb4 b4.lt).alloc (.cells (parts 6 0 0 0) 72 (0, 0))
  replace b9 := (b9.below hb4 b9.lt).alloc (.cells (parts 6 0 0 0) 72 (0, 0))
  have b10 := Blk.new (T := 72) w4 (parts 6 0 0 0)
  clear g0 g1 hb4 b3
  go_upto_region 6 with (fail)
  rw [← show parts 6 0 0 0 = #[.int .u8 6, .int .u64 0, .int .u64 0, .int .u64 0, .int .u64 0, .int .u64 0, .int .u64 0, .int .i64 0, .int .u64 0, .int .u64 0, .int .u64 0, .int .u64 0, .int .u64 0, .int .u64 0] from parts_zero 6]
  generalize w4.alloc (.cells (parts 6 0 0 0) 72 (0, 0)) = v at *
  obtain ⟨d0, d1, d2, d3, d4, d5, d6, d7, d8, d9, d10, d11, d12, d13⟩ := b10.p14
  obtain ⟨c0, c1, c2, c3, c4, c5, c6, c7, c8, c9, c10, c11, c12, c13⟩ := b4.p14
  obtain ⟨n0, n1, n2, n3, n4, n5, n6, n7, n8, n9, n10, n11, n12, n13⟩ := b4.free14
  simp only [limb_zero] at d0 d1 d2 d3 d4 d5 d6 d7 d8 d9 d10 d11 d12 d13 c0 c1 c2 c3 c4 c5 c6 c7 c8 c9 c10 c11 c12 c13
  replace d0 : v.cell? ⟨w4.heap.size, 0, none⟩ = some (.int .u8 6) := d0
  replace c0 : v.cell? ⟨w.heap.size + 1, 0, none⟩ = some (.int .u8 0) := c0
  obtain ⟨m0, m1, m2, m3, m4, m5⟩ := b9.six
  obtain ⟨k0, k1, k2, k3, k4, k5, k6, k7, k8, k9, k10, k11, k12, k13⟩ := b10.free14
  have B10 := Lib.hid b10
  have B4 := Lib.hid b4
  have B9 := Lib.hid b9
  obtain ⟨z0, z1, z2, z3, z4, z5⟩ := b9.six_free
  clear b10 b9 b4 cT cP cF cC
  have HW := Lib.hid hw2
  have NE := Lib.hid nE
  have N39 := Lib.hid n39
  have N94 := Lib.hid n94
  clear hw2 nE n39 n94 l4
  go_upto_region 16 with (fail)
  have bT := B9.out.set 0 _ (limbs_top t 0 s HTQ.out HS.out (by decide))
  have bTen := B10.out.other ⟨w3.heap.size, 0, none⟩ (.int .u64 (Go.bits .or .u64 (limb t 0) (IntKind.u64.wrap (2 ^ s)))) (Nat.ne_of_gt N39.out)
  have bFour := B4.out.other ⟨w3.heap.size, 0, none⟩ (.int .u64 (Go.bits .or .u64 (limb t 0) (IntKind.u64.wrap (2 ^ s)))) (Nat.ne_of_lt N94.out)
  have hwT := HW.out.setCell (p := ⟨w3.heap.size, 0, none⟩) (by have := N94.out; show w.heap.size ≤ w3.heap.size; omega) (.int .u64 (Go.bits .or .u64 (limb t 0) (IntKind.u64.wrap (2 ^ s))))
  clear B10 B4 HW B9 HTQ HS N39 N94 d0 d1 d2 d3 d4 d5 d6 d7 d8 d9 d10 d11 d12 d13 c0 c1 c2 c3 c4 c5 c6 c7 c8 c9 c10 c11 c12 c13 n0 n1 n2 n3 n4 n5 n6 n7 n8 n9 n10 n11 n12 n13 k0 k1 k2 k3 k4 k5 k6 k7 k8 k9 k10 k11 k12 k13 m0 m1 m2 m3 m4 m5 z0 z1 z2 z3 z4 z5
  generalize v.setCell ⟨w3.heap.size, 0, none⟩ (.int .u64 (Go.bits .or .u64 (limb t 0) (IntKind.u64.wrap (2 ^ s)))) = x at *
  generalize hT2 : t + 2 ^ (64 * 0 + s) = T at *
  have HT2 := Lib.hid hT2
  have B10 := Lib.hid bTen
  have B4 := Lib.hid bFour
  have HW := Lib.hid hwT
  obtain ⟨m0, m1, m2, m3, m4, m5⟩ := bT.six
  obtain ⟨d0, d1, d2, d3, d4, d5, d6, d7, d8, d9, d10, d11, d12, d13⟩ := bTen.p14
  obtain ⟨k0, k1, k2, k3, k4, k5, k6, k7, k8, k9, k10, k11, k12, k13⟩ := bTen.free14
  obtain ⟨c0, c1, c2, c3, c4, c5, c6, c7, c8, c9, c10, c11, c12, c13⟩ := bFour.p14
  obtain ⟨n0, n1, n2, n3, n4, n5, n6, n7, n8, n9, n10, n11, n12, n13⟩ := bFour.free14
  simp only [limb_zero] at d0 d1 d2 d3 d4 d5 d6 d7 d8 d9 d10 d11 d12 d13
  clear bT bTen bFour hwT hT2 hqi hqs s64
  go_upto_region 17 with (fail)
  have b10 := B10.out.putSig T
  have b4 := B4.out.putSig_other T (Nat.ne_of_lt NE.out)
  have hw := below_putSig HW.out (by have := NE.out; omega : w.heap.size ≤ w4.heap.size) T
  clear B10 B4 HW d0 d1 d2 d3 d4 d5 d6 d7 d8 d9 d10 d11 d12 d13 c0 c1 c2 c3 c4 c5 c6 c7 c8 c9 c10 c11 c12 c13 n0 n1 n2 n3 n4 n5 n6 n7 n8 n9 n10 n11 n12 n13 k0 k1 k2 k3 k4 k5 k6 k7 k8 k9 k10 k11 k12 k13 m0 m1 m2 m3 m4 m5
  change Code.wp _ _ _ _ (putSig x w4.heap.size T)
  generalize putSig x w4.heap.size T = u at *
  have hs := b10.lt
  go_upto_region 18 with (go_at_call 86; refine (cM _).mono ?_; rintro e' w5 ⟨rfl, hb5⟩; have q7 := (b10.below hb5 hs).cell 7 rfl; have y7 := (b10.below hb5 hs).free 7)
  have b10' := ((b10.below hb5 hs).set 7 (.int .i64 ((e : Int) - 1 + em - (p : Int) + 1)) rfl).cast (show _ = parts 6 T ((e : Int) - 1 + em - (p : Int) + 1) 0 by simp [parts])
  have b4' := (b4.below hb5 b4.lt).other ⟨w4.heap.size, 7, none⟩ (.int .i64 ((e : Int) - 1 + em - (p : Int) + 1)) (Nat.ne_of_lt NE.out)
  have hw' := (hw.trans (hb5.mono (by have := NE.out; omega))).setCell (p := ⟨w4.heap.size, 7, none⟩) (by have := NE.out; show w.heap.size ≤ w4.heap.size; omega) (.int .i64 ((e : Int) - 1 + em - (p : Int) + 1))
  clear q7 y7 b10 b4 hw hb5 hs
  generalize w5.setCell ⟨w4.heap.size, 7, none⟩ (.int .i64 ((e : Int) - 1 + em - (p : Int) + 1)) = u2 at *
  generalize hX : ((e : Int) - 1 + em - (p : Int) + 1) = X at *
  have HX := Lib.hid hX
  clear hX
  obtain ⟨d0, d1, d2, d3, d4, d5, d6, d7, d8, d9, d10, d11, d12, d13⟩ := b10'.p14
  obtain ⟨c0, c1, c2, c3, c4, c5, c6, c7, c8, c9, c10, c11, c12, c13⟩ := b4'.p14
  obtain ⟨n0, n1, n2, n3, n4, n5, n6, n7, n8, n9, n10, n11, n12, n13⟩ := b4'.free14
  simp only [limb_zero] at d0 d1 d2 d3 d4 d5 d6 d7 d8 d9 d10 d11 d12 d13 c0 c1 c2 c3 c4 c5 c6 c7 c8 c9 c10 c11 c12 c13
  replace d0 : u2.cell? ⟨w4.heap.size, 0, none⟩ = some (.int .u8 6) := d0
  replace c0 : u2.cell? ⟨w.heap.size + 1, 0, none⟩ = some (.int .u8 0) := c0
  clear b10' b4' he hp hm1 hm2 he' he0 hp' hp0 cM
  have HW := Lib.hid hw'
  clear hw'
  go_wp2_with fail
  have hb := below_put14 HW.out (by omega : w.heap.size ≤ w.heap.size + 1) 6 T X 0
  unfold put14 at hb
  simp only [limb_zero] at hb
  exact bodyPost_ret (v := .tuple #[PV 6 T X 0, .int .i64 0]) (by simp [results, Tryd.results91, go_sem, parts, limb_zero, c0, c1, c2, c3, c4, c5, c6, c7, c8, c9, c10, c11, c12, c13]) rfl ⟨by rw [HX.out, HT2.out], hb⟩
end Go.Proofs.YtdcgcjmajacgiaaDoor

namespace Go.Proofs.YtdcgcjmajacgiaaDoor
open Go.RowKit
set_option maxHeartbeats 3200000 in
set_option maxRecDepth 100000 in
theorem kindUnpack_1_1 (f b e t p : Nat) (em : Int) (neg : Bool) (w : World) (hT : Tab w) (s : Nat) (he : e ≤ 32767) (he1 : 1 ≤ e) (hs64 : s < 64) (htq : t < 2 ^ (64 * 1 + s)) (hqi : ((p : Int) - 1) / 64 = 1) (hqs : ((p : Int) - 1) % 64 = (s : Int)) (hp1 : 11 ≤ p) (hp : p ≤ 113) (hm1 : -16382 ≤ em) (hm2 : em ≤ 0)
    (cM : ∀ w, Calls Tryd.prog 86 #[.int .u8 f] w fun e' w' => e' = .returned (.int .i64 em) ∧ Below w.heap.size w w')
    (cT : ∀ w, Calls Tryd.prog 22 #[.int .u8 f, BV b] w fun e' w' => e' = .returned (.bool true) ∧ Below w.heap.size w w')
    (cP : ∀ w, Calls Tryd.prog 65 #[.int .u8 f] w fun e' w' => e' = .returned (.int .i64 (p : Nat)) ∧ Below w.heap.size w w')
    (cF : ∀ w, Tab w → Calls Tryd.prog 108 #[.int .u8 f, BV b] w fun e' w' => e' = .returned (.tuple #[.bool neg, .int .i64 (e : Nat), W t]) ∧ Below w.heap.size w w')
    (cC : ∀ w, Tab w → Calls Tryd.prog 94 #[.int .u8 f, BV b] w fun e' w' => e' = .returned (.int .u8 1) ∧ Below w.heap.size w w') :
    Calls Tryd.prog 91 #[.int .u8 f, BV b] w fun e' w' => e' = .returned (.tuple #[PV 1 (t + 2 ^ (64 * 1 + s)) ((e : Int) - 1 + em - (p : Int) + 1) 0, .int .i64 0]) ∧ Below w.heap.size w w' := by
  have HT := Lib.hid hT
  clear hT
  have he' : (e : Int) ≤ 32767 := by omega
  have he0 : (0 : Int) ≤ (e : Int) := by omega
  have hp' : (p : Int) ≤ 113 := by omega
  have hp0 : (11 : Int) ≤ (p : Int) := by omega
  have he1' : (1 : Int) ≤ (e : Int) := by omega
  have HS := Lib.hid hs64
  have HTQ := Lib.hid htq
  have s64 : (s : Int) < 64 := by omega
  clear htq hs64
  go_enter Tryd.func91, Tryd.ntmps91
  go_wp2_with fail
  refine (cT _).mono ?_
  rintro e' w1 ⟨rfl, hb1⟩
  go_wp2_with fail
  refine (cP _).mono ?_
  rintro e' w2 ⟨rfl, hb2⟩
  have b4 : Blk 72 w2 (w.heap.size + 1) (parts 0 0 0 0) := by
    rw [parts_zero]
    have := (Blk.new (T := 72) (w.alloc (.cells #[.int .u64 (limb b 1), .int .u64 (limb b 0)] 27 (0, 0))) #[.int .u8 0, .int .u64 0, .int .u64 0, .int .u64 0, .int .u64 0, .int .u64 0, .int .u64 0, .int .i64 0, .int .u64 0, .int .u64 0, .int .u64 0, .int .u64 0, .int .u64 0, .int .u64 0]).below hb1 (by simp)
    have := this.below hb2 this.lt
    simpa using this
  have b3 : Blk 27 w2 w.heap.size #[.int .u64 (limb b 1), .int .u64 (limb b 0)] := by
    have h1 := ((Blk.new (T := 27) w #[.int .u64 (limb b 1), .int .u64 (limb b 0)]).alloc (.cells #[.int .u8 0, .int .u64 0, .int .u64 0, .int .u64 0, .int .u64 0, .int .u64 0, .int .u64 0, .int .i64 0, .int .u64 0, .int .u64 0, .int .u64 0, .int .u64 0, .int .u64 0, .int .u64 0] 72 (0, 0))).below hb1 (by simp <;> omega)
    exact h1.below hb2 h1.lt
  have hw2 := ((((Below.refl w.heap.size w).alloc (Nat.le_refl _) (.cells #[.int .u64 (limb b 1), .int .u64 (limb b 0)] 27 (0, 0))).alloc (by simp) (.cells #[.int .u8 0, .int .u64 0, .int .u64 0, .int .u64 0, .int .u64 0, .int .u64 0, .int .u64 0, .int .i64 0, .int .u64 0, .int .u64 0, .int .u64 0, .int .u64 0, .int .u64 0, .int .u64 0] 72 (0, 0))).trans (hb1.mono (by simp <;> omega))).trans (hb2.mono (by have := hb1.size; simp at this; omega))
  clear hb1 hb2
  have g0 := b3.cell 0 rfl
  have g1 := b3.cell 1 rfl
  go_wp2_with fail
  refine (cF _ (HT.out.below hw2)).mono ?_
  rintro e' w3 ⟨rfl, hb3⟩
  replace hw2 := (hw2.trans (hb3.mono (Nat.le_of_lt b3.lt))).alloc (by have := b3.lt; have := hb3.size; omega) (.cells (limbs t) 54 (0, 0))
  have l4 := (b4.below hb3 b4.lt).lt
  replace b4 := (b4.below hb3 b4.lt).alloc (.cells (limbs t) 54 (0, 0))
  replace b3 := (b3.below hb3 b3.lt).alloc (.cells (limbs t) 54 (0, 0))
  have b9 := Blk.new (T := 54) w3 (limbs t)
  clear g0 g1 hb3
  go_upto_region 5 with (fail)
  change Code.wp _ _ _ _ (w3.alloc (.cells (limbs t) 54 (0, 0)))
  generalize w3.alloc (.cells (limbs t) 54 (0, 0)) = v at *
  have g0 := b3.cell 0 rfl
  have g1 := b3.cell 1 rfl
  go_wp2_with fail
  refine (cC _ (HT.out.below hw2)).mono ?_
  rintro e' w4 ⟨rfl, hb4⟩
  replace hw2 := (hw2.trans (hb4.mono (Nat.le_of_lt b3.lt))).alloc (by have := b3.lt; have := hb4.size; omega) (.cells (parts 1 0 0 0) 72 (0, 0))
  have n39 : w3.heap.size < w4.heap.size := (b9.below hb4 b9.lt).lt
  have n94 : w.heap.size + 1 < w3.heap.size := l4
  have nE : w.heap.size + 1 < w4.heap.size := (b4.below hb4 b4.lt).lt
  replace b4 := (b4.below hb4 b4.lt).alloc (.cells (parts 1 0 0 0) 72 (0, 0))
  replace b9 := (b9.below hb4 b9.lt).alloc (.cells (parts 1 0 0 0) 72 (0, 0))
  have b10 := Blk.new (T := 72) w4 (parts 1 0 0 0)
  clear g0 g1 hb4 b3
  go_upto_region 6 with (fail)
  rw [← show parts 1 0 0 0 = #[.int .u8 1, .int .u64 0, .int .u64 0, .int .u64 0, .int .u64 0, .int .u64 0, .int .u64 0, .int .i64 0, .int .u64 0, .int .u64 0, .int .u64 0, .int .u64 0, .int .u64 0, .int .u64 0] from parts_zero 1]
  generalize w4.alloc (.cells (parts 1 0 0 0) 72 (0, 0)) = v at *
  obtain ⟨d0, d1, d2, d3, d4, d5, d6, d7, d8, d9, d10, d11, d12, d13⟩ := b10.p14
  obtain ⟨c0, c1, c2, c3, c4, c5, c6, c7, c8, c9, c10, c11, c12, c13⟩ := b4.p14
  obtain ⟨n0, n1, n2, n3, n4, n5, n6, n7, n8, n9, n10, n11, n12, n13⟩ := b4.free14
  simp only [limb_zero] at d0 d1 d2 d3 d4 d5 d6 d7 d8 d9 d10 d11 d12 d13 c0 c1 c2 c3 c4 c5 c6 c7 c8 c9 c10 c11 c12 c13
  replace d0 : v.cell? ⟨w4.heap.size, 0, none⟩ = some (.int .u8 1) := d0
  replace c0 : v.cell? ⟨w.heap.size + 1, 0, none⟩ = some (.int .u8 0) := c0
  obtain ⟨m0, m1, m2, m3, m4, m5⟩ := b9.six
  obtain ⟨k0, k1, k2, k3, k4, k5, k6, k7, k8, k9, k10, k11, k12, k13⟩ := b10.free14
  have B10 := Lib.hid b10
  have B4 := Lib.hid b4
  have B9 := Lib.hid b9
  obtain ⟨z0, z1, z2, z3, z4, z5⟩ := b9.six_free
  clear b10 b9 b4 cT cP cF cC
  have HW := Lib.hid hw2
  have NE := Lib.hid nE
  have N39 := Lib.hid n39
  have N94 := Lib.hid n94
  clear hw2 nE n39 n94 l4
  go_upto_region 16 with (fail)
  have bT := B9.out.set 1 _ (limbs_top t 1 s HTQ.out HS.out (by decide))
  have bTen := B10.out.other ⟨w3.heap.size, 1, none⟩ (.int .u64 (Go.bits .or .u64 (limb t 1) (IntKind.u64.wrap (2 ^ s)))) (Nat.ne_of_gt N39.out)
  have bFour := B4.out.other ⟨w3.heap.size, 1, none⟩ (.int .u64 (Go.bits .or .u64 (limb t 1) (IntKind.u64.wrap (2 ^ s)))) (Nat.ne_of_lt N94.out)
  have hwT := HW.out.setCell (p := ⟨w3.heap.size, 1, none⟩) (by have := N94.out; show w.heap.size ≤ w3.heap.size; omega) (.int .u64 (Go.bits .or .u64 (limb t 1) (IntKind.u64.wrap (2 ^ s))))
  clear B10 B4 HW B9 HTQ HS N39 N94 d0 d1 d2 d3 d4 d5 d6 d7 d8 d9 d10 d11 d12 d13 c0 c1 c2 c3 c4 c5 c6 c7 c8 c9 c10 c11 c12 c13 n0 n1 n2 n3 n4 n5 n6 n7 n8 n9 n10 n11 n12 n13 k0 k1 k2 k3 k4 k5 k6 k7 k8 k9 k10 k11 k12 k13 m0 m1 m2 m3 m4 m5 z0 z1 z2 z3 z4 z5
  generalize v.setCell ⟨w3.heap.size, 1, none⟩ (.int .u64 (Go.bits .or .u64 (limb t 1) (IntKind.u64.wrap (2 ^ s)))) = x at *
  generalize hT2 : t + 2 ^ (64 * 1 + s) = T at *
  have HT2 := Lib.hid hT2
  have B10 := Lib.hid bTen
  have B4 := Lib.hid bFour
  have HW := Lib.hid hwT
  obtain ⟨m0, m1, m2, m3, m4, m5⟩ := bT.six
  obtain ⟨d0, d1, d2, d3, d4, d5, d6, d7, d8, d9, d10, d11, d12, d13⟩ := bTen.p14
  obtain ⟨k0, k1, k2, k3, k4, k5, k6, k7, k8, k9, k10, k11, k12, k13⟩ := bTen.free14
  obtain ⟨c0, c1, c2, c3, c4, c5, c6, c7, c8, c9, c10, c11, c12, c13⟩ := bFour.p14
  obtain ⟨n0, n1, n2, n3, n4, n5, n6, n7, n8, n9, n10, n11, n12, n13⟩ := bFour.free14
  simp only [limb_zero] at d0 d1 d2 d3 d4 d5 d6 d7 d8 d9 d10 d11 d12 d13
  clear bT bTen bFour hwT hT2 hqi hqs s64
  go_upto_region 17 with (fail)
  have b10 := B10.out.putSig T
  have b4 := B4.out.putSig_other T (Nat.ne_of_lt NE.out)
  have hw := below_putSig HW.out (by have := NE.out; omega : w.heap.size ≤ w4.heap.size) T
  clear B10 B4 HW d0 d1 d2 d3 d4 d5 d6 d7 d8 d9 d10 d11 d12 d13 c0 c1 c2 c3 c4 c5 c6 c7 c8 c9 c10 c11 c12 c13 n0 n1 n2 n3 n4 n5 n6 n7 n8 n9 n10 n11 n12 n13 k0 k1 k2 k3 k4 k5 k6 k7 k8 k9 k10 k11 k12 k13 m0 m1 m2 m3 m4 m5
  change Code.wp _ _ _ _ (putSig x w4.heap.size T)
  generalize putSig x w4.heap.size T = u at *
  have hs := b10.lt
  go_upto_region 18 with (go_at_call 86; refine (cM _).mono ?_; rintro e' w5 ⟨rfl, hb5⟩; have q7 := (b10.below hb5 hs).cell 7 rfl; have y7 := (b10.below hb5 hs).free 7)
  have b10' := ((b10.below hb5 hs).set 7 (.int .i64 ((e : Int) - 1 + em - (p : Int) + 1)) rfl).cast (show _ = parts 1 T ((e : Int) - 1 + em - (p : Int) + 1) 0 by simp [parts])
  have b4' := (b4.below hb5 b4.lt).other ⟨w4.heap.size, 7, none⟩ (.int .i64 ((e : Int) - 1 + em - (p : Int) + 1)) (Nat.ne_of_lt NE.out)
  have hw' := (hw.trans (hb5.mono (by have := NE.out; omega))).setCell (p := ⟨w4.heap.size, 7, none⟩) (by have := NE.out; show w.heap.size ≤ w4.heap.size; omega) (.int .i64 ((e : Int) - 1 + em - (p : Int) + 1))
  clear q7 y7 b10 b4 hw hb5 hs
  generalize w5.setCell ⟨w4.heap.size, 7, none⟩ (.int .i64 ((e : Int) - 1 + em - (p : Int) + 1)) = u2 at *
  generalize hX : ((e : Int) - 1 + em - (p : Int) + 1) = X at *
  have HX := Lib.hid hX
  clear hX
  obtain ⟨d0, d1, d2, d3, d4, d5, d6, d7, d8, d9, d10, d11, d12, d13⟩ := b10'.p14
  obtain ⟨c0, c1, c2, c3, c4, c5, c6, c7, c8, c9, c10, c11, c12, c13⟩ := b4'.p14
  obtain ⟨n0, n1, n2, n3, n4, n5, n6, n7, n8, n9, n10, n11, n12, n13⟩ := b4'.free14
  simp only [limb_zero] at d0 d1 d2 d3 d4 d5 d6 d7 d8 d9 d10 d11 d12 d13 c0 c1 c2 c3 c4 c5 c6 c7 c8 c9 c10 c11 c12 c13
  replace d0 : u2.cell? ⟨w4.heap.size, 0, none⟩ = some (.int .u8 1) := d0
  replace c0 : u2.cell? ⟨w.heap.size + 1, 0, none⟩ = some (.int .u8 0) := c0
  clear b10' b4' he hp hm1 hm2 he' he0 hp' hp0 cM
  have HW := Lib.hid hw'
  clear hw'
  go_wp2_with fail
  have hb := below_put14 HW.out (by omega : w.heap.size ≤ w.heap.size + 1) 1 T X 0
  unfold put14 at hb
  simp only [limb_zero] at hb
  exact bodyPost_ret (v := .tuple #[PV 1 T X 0, .int .i64 0]) (by simp [results, Tryd.results91, go_sem, parts, limb_zero, c0, c1, c2, c3, c4, c5, c6, c7, c8, c9, c10, c11, c12, c13]) rfl ⟨by rw [HX.out, HT2.out], hb⟩
set_option maxHeartbeats 3200000 in
set_option maxRecDepth 100000 in
theorem kindUnpack_6_1 (f b e t p : Nat) (em : Int) (neg : Bool) (w : World) (hT : Tab w) (s : Nat) (he : e ≤ 32767) (he1 : 1 ≤ e) (hs64 : s < 64) (htq : t < 2 ^ (64 * 1 + s)) (hqi : ((p : Int) - 1) / 64 = 1) (hqs : ((p : Int) - 1) % 64 = (s : Int)) (hp1 : 11 ≤ p) (hp : p ≤ 113) (hm1 : -16382 ≤ em) (hm2 : em ≤ 0)
    (cM : ∀ w, Calls Tryd.prog 86 #[.int .u8 f] w fun e' w' => e' = .returned (.int .i64 em) ∧ Below w.heap.size w w')
    (cT : ∀ w, Calls Tryd.prog 22 #[.int .u8 f, BV b] w fun e' w' => e' = .returned (.bool true) ∧ Below w.heap.size w w')
    (cP : ∀ w, Calls Tryd.prog 65 #[.int .u8 f] w fun e' w' => e' = .returned (.int .i64 (p : Nat)) ∧ Below w.heap.size w w')
    (cF : ∀ w, Tab w → Calls Tryd.prog 108 #[.int .u8 f, BV b] w fun e' w' => e' = .returned (.tuple #[.bool neg, .int .i64 (e : Nat), W t]) ∧ Below w.heap.size w w')
    (cC : ∀ w, Tab w → Calls Tryd.prog 94 #[.int .u8 f, BV b] w fun e' w' => e' = .returned (.int .u8 6) ∧ Below w.heap.size w w') :
    Calls Tryd.prog 91 #[.int .u8 f, BV b] w fun e' w' => e' = .returned (.tuple #[PV 6 (t + 2 ^ (64 * 1 + s)) ((e : Int) - 1 + em - (p : Int) + 1) 0, .int .i64 0]) ∧ Below w.heap.size w w' := by
  have HT := Lib.hid hT
  clear hT
  have he' : (e : Int) ≤ 32767 := by omega
  have he0 : (0 : Int) ≤ (e : Int) := by omega
  have hp' : (p : Int) ≤ 113 := by omega
  have hp0 : (11 : Int) ≤ (p : Int) := by omega
  have he1' : (1 : Int) ≤ (e : Int) := by omega
  have HS := Lib.hid hs64
  have HTQ := Lib.hid htq
  have s64 : (s : Int) < 64 := by omega
  clear htq hs64
  go_enter Tryd.func91, Tryd.ntmps91
  go_wp2_with fail
  refine (cT _).mono ?_
  rintro e' w1 ⟨rfl, hb1⟩
  go_wp2_with fail
  refine (cP _).mono ?_
  rintro e' w2 ⟨rfl, hb2⟩
  have b4 : Blk 72 w2 (w.heap.size + 1) (parts 0 0 0 0) := by
    rw [parts_zero]
    have := (Blk.new (T := 72) (w.alloc (.cells #[.int .u64 (limb b 1), .int .u64 (limb b 0)] 27 (0, 0))) #[.int .u8 0, .int .u64 0, .int .u64 0, .int .u64 0, .int .u64 0, .int .u64 0, .int .u64 0, .int .i64 0, .int .u64 0, .int .u64 0, .int .u64 0, .int .u64 0, .int .u64 0, .int .u64 0]).below hb1 (by simp)
    have := this.below hb2 this.lt
    simpa using this
  have b3 : Blk 27 w2 w.heap.size #[.int .u64 (limb b 1), .int .u64 (limb b 0)] := by
    have h1 := ((Blk.new (T := 27) w #[.int .u64 (limb b 1), .int .u64 (limb b 0)]).alloc (.cells #[.int .u8 0, .int .u64 0, .int .u64 0, .int .u64 0, .int .u64 0, .int .u64 0, .int .u64 0, .int .i64 0, .int .u64 0, .int .u64 0, .int .u64 0, .int .u64 0, .int .u64 0, .int .u64 0] 72 (0, 0))).below hb1 (by simp <;> omega)
    exact h1.below hb2 h1.lt
  have hw2 := ((((Below.refl w.heap.size w).alloc (Nat.le_refl _) (.cells #[.int .u64 (limb b 1), .int .u64 (limb b 0)] 27 (0, 0))).alloc (by simp) (.cells #[.int .u8 0, .int .u64 0, .int .u64 0, .int .u64 0, .int .u64 0, .int .u64 0, .int .u64 0, .int .i64 0, .int .u64 0, .int .u64 0, .int .u64 0, .int .u64 0, .int .u64 0, .int .u64 0] 72 (0, 0))).trans (hb1.mono (by simp <;> omega))).trans (hb2.mono (by have := hb1.size; simp at this; omega))
  clear hb1 hb2
  have g0 := b3.cell 0 rfl
  have g1 := b3.cell 1 rfl
  go_wp2_with fail
  refine (cF _ (HT.out.below hw2)).mono ?_
  rintro e' w3 ⟨rfl, hb3⟩
  replace hw2 := (hw2.trans (hb3.mono (Nat.le_of_lt b3.lt))).alloc (by have := b3.lt; have := hb3.size; omega) (.cells (limbs t) 54 (0, 0))
  have l4 := (b4.below hb3 b4.lt).lt
  replace b4 := (b4.below hb3 b4.lt).alloc (.cells (limbs t) 54 (0, 0))
  replace b3 := (b3.below hb3 b3.lt).alloc (.cells (limbs t) 54 (0, 0))
  have b9 := Blk.new (T := 54) w3 (limbs t)
  clear g0 g1 hb3
  go_upto_region 5 with (fail)
  change Code.wp _ _ _ _ (w3.alloc (.cells (limbs t) 54 (0, 0)))
  generalize w3.alloc (.cells (limbs t) 54 (0, 0)) = v at *
  have g0 := b3.cell 0 rfl
  have g1 := b3.cell 1 rfl
  go_wp2_with fail
  refine (cC _ (HT.out.below hw2)).mono ?_
  rintro e' w4 ⟨rfl, hb4⟩
  replace hw2 := (hw2.trans (hb4.mono (Nat.le_of_lt b3.lt))).alloc (by have := b3.lt; have := hb4.size; omega) (.cells (parts 6 0 0 0) 72 (0, 0))
  have n39 : w3.heap.size < w4.heap.size := (b9.below hb4 b9.lt).lt
  have n94 : w.heap.size + 1 < w3.heap.size := l4
  have nE : w.heap.size + 1 < w4.heap.size := (b4.below hb4 b4.lt).lt
  replace b4 := (b4.below hb4 b4.lt).alloc (.cells (parts 6 0 0 0) 72 (0, 0))
  replace b9 := (b9.below hb4 b9.lt).alloc (.cells (parts 6 0 0 0) 72 (0, 0))
  have b10 := Blk.new (T := 72) w4 (parts 6 0 0 0)
  clear g0 g1 hb4 b3
  go_upto_region 6 with (fail)
  rw [← show parts 6 0 0 0 = #[.int .u8 6, .int .u64 0, .int .u64 0, .int .u64 0, .int .u64 0, .int .u64 0, .int .u64 0, .int .i64 0, .int .u64 0, .int .u64 0, .int .u64 0, .int .u64 0, .int .u64 0, .int .u64 0] from parts_zero 6]
  generalize w4.alloc (.cells (parts 6 0 0 0) 72 (0, 0)) = v at *
  obtain ⟨d0, d1, d2, d3, d4, d5, d6, d7, d8, d9, d10, d11, d12, d13⟩ := b10.p14
  obtain ⟨c0, c1, c2, c3, c4, c5, c6, c7, c8, c9, c10, c11, c12, c13⟩ := b4.p14
  obtain ⟨n0, n1, n2, n3, n4, n5, n6, n7, n8, n9, n10, n11, n12, n13⟩ := b4.free14
  simp only [limb_zero] at d0 d1 d2 d3 d4 d5 d6 d7 d8 d9 d10 d11 d12 d13 c0 c1 c2 c3 c4 c5 c6 c7 c8 c9 c10 c11 c12 c13
  replace d0 : v.cell? ⟨w4.heap.size, 0, none⟩ = some (.int .u8 6) := d0
  replace c0 : v.cell? ⟨w.heap.size + 1, 0, none⟩ = some (.int .u8 0) := c0
  obtain ⟨m0, m1, m2, m3, m4, m5⟩ := b9.six
  obtain ⟨k0, k1, k2, k3, k4, k5, k6, k7, k8, k9, k10, k11, k12, k13⟩ := b10.free14
  have B10 := Lib.hid b10
  have B4 := Lib.hid b4
  have B9 := Lib.hid b9
  obtain ⟨z0, z1, z2, z3, z4, z5⟩ := b9.six_free
  clear b10 b9 b4 cT cP cF cC
  have HW := Lib.hid hw2
  have NE := Lib.hid nE
  have N39 := Lib.hid n39
  have N94 := Lib.hid n94
  clear hw2 nE n39 n94 l4
  go_upto_region 16 with (fail)
  have bT := B9.out.set 1 _ (limbs_top t 1 s HTQ.out HS.out (by decide))
  have bTen := B10.out.other ⟨w3.heap.size, 1, none⟩ (.int .u64 (Go.bits .or .u64 (limb t 1) (IntKind.u64.wrap (2 ^ s)))) (Nat.ne_of_gt N39.out)
  have bFour := B4.out.other ⟨w3.heap.size, 1, none⟩ (.int .u64 (Go.bits .or .u64 (limb t 1) (IntKind.u64.wrap (2 ^ s)))) (Nat.ne_of_lt N94.out)
  have hwT := HW.out.setCell (p := ⟨w3.heap.size, 1, none⟩) (by have := N94.out; show w.heap.size ≤ w3.heap.size; omega) (.int .u64 (Go.bits .or .u64 (limb t 1) (IntKind.u64.wrap (2 ^ s))))
  clear B10 B4 HW B9 HTQ HS N39 N94 d0 d1 d2 d3 d4 d5 d6 d7 d8 d9 d10 d11 d12 d13 c0 c1 c2 c3 c4 c5 c6 c7 c8 c9 c10 c11 c12 c13 n0 n1 n2 n3 n4 n5 n6 n7 n8 n9 n10 n11 n12 n13 k0 k1 k2 k3 k4 k5 k6 k7 k8 k9 k10 k11 k12 k13 m0 m1 m2 m3 m4 m5 z0 z1 z2 z3 z4 z5
  generalize v.setCell ⟨w3.heap.size, 1, none⟩ (.int .u64 (Go.bits .or .u64 (limb t 1) (IntKind.u64.wrap (2 ^ s)))) = x at *
  generalize hT2 : t + 2 ^ (64 * 1 + s) = T at *
  have HT2 := Lib.hid hT2
  have B10 := Lib.hid bTen
  have B4 := Lib.hid bFour
  have HW := Lib.hid hwT
  obtain ⟨m0, m1, m2, m3, m4, m5⟩ := bT.six
  obtain ⟨d0, d1, d2, d3, d4, d5, d6, d7, d8, d9, d10, d11, d12, d13⟩ := bTen.p14
  obtain ⟨k0, k1, k2, k3, k4, k5, k6, k7, k8, k9, k10, k11, k12, k13⟩ := bTen.free14
  obtain ⟨c0, c1, c2, c3, c4, c5, c6, c7, c8, c9, c10, c11, c12, c13⟩ := bFour.p14
  obtain ⟨n0, n1, n2, n3, n4, n5, n6, n7, n8, n9, n10, n11, n12, n13⟩ := bFour.free14
  simp only [limb_zero] at d0 d1 d2 d3 d4 d5 d6 d7 d8 d9 d10 d11 d12 d13
  clear bT bTen bFour hwT hT2 hqi hqs s64
  go_upto_region 17 with (fail)
  have b10 := B10.out.putSig T
  have b4 := B4.out.putSig_other T (Nat.ne_of_lt NE.out)
  have hw := below_putSig HW.out (by have := NE.out; omega : w.heap.size ≤ w4.heap.size) T
  clear B10 B4 HW d0 d1 d2 d3 d4 d5 d6 d7 d8 d9 d10 d11 d12 d13 c0 c1 c2 c3 c4 c5 c6 c7 c8 c9 c10 c11 c12 c13 n0 n1 n2 n3 n4 n5 n6 n7 n8 n9 n10 n11 n12 n13 k0 k1 k2 k3 k4 k5 k6 k7 k8 k9 k10 k11 k12 k13 m0 m1 m2 m3 m4 m5
  change Code.wp _ _ _ _ (putSig x w4.heap.size T)
  generalize putSig x w4.heap.size T = u at *
  have hs := b10.lt
  go_upto_region 18 with (go_at_call 86; refine (cM _).mono ?_; rintro e' w5 ⟨rfl, hb5⟩; have q7 := (b10.below hb5 hs).cell 7 rfl; have y7 := (b10.below hb5 hs).free 7)
  have b10' := ((b10.below hb5 hs).set 7 (.int .i64 ((e : Int) - 1 + em - (p : Int) + 1)) rfl).cast (show _ = parts 6 T ((e : Int) - 1 + em - (p : Int) + 1) 0 by simp [parts])
  have b4' := (b4.below hb5 b4.lt).other ⟨w4.heap.size, 7, none⟩ (.int .i64 ((e : Int) - 1 + em - (p : Int) + 1)) (Nat.ne_of_lt NE.out)
  have hw' := (hw.trans (hb5.mono (by have := NE.out; omega))).setCell (p := ⟨w4.heap.size, 7, none⟩) (by have := NE.out; show w.heap.size ≤ w4.heap.size; omega) (.int .i64 ((e : Int) - 1 + em - (p : Int) + 1))
  clear q7 y7 b10 b4 hw hb5 hs
  generalize w5.setCell ⟨w4.heap.size, 7, none⟩ (.int .i64 ((e : Int) - 1 + em - (p : Int) + 1)) = u2 at *
  generalize hX : ((e : Int) - 1 + em - (p : Int) + 1) = X at *
  have HX := Lib.hid hX
  clear hX
  obtain ⟨d0, d1, d2, d3, d4, d5, d6, d7, d8, d9, d10, d11, d12, d13⟩ := b10'.p14
  obtain ⟨c0, c1, c2, c3, c4, c5, c6, c7, c8, c9, c10, c11, c12, c13⟩ := b4'.p14
  obtain ⟨n0, n1, n2, n3, n4, n5, n6, n7, n8, n9, n10, n11, n12, n13⟩ := b4'.free14
  simp only [limb_zero] at d0 d1 d2 d3 d4 d5 d6 d7 d8 d9 d10 d11 d12 d13 c0 c1 c2 c3 c4 c5 c6 c7 c8 c9 c10 c11 c12 c13
  replace d0 : u2.cell? ⟨w4.heap.size, 0, none⟩ = some (.int .u8 6) := d0
  replace c0 : u2.cell? ⟨w.heap.size + 1, 0, none⟩ = some (.int .u8 0) := c0
  clear b10' b4' he hp hm1 hm2 he' he0 hp' hp0 cM
  have HW := Lib.hid hw'
  clear hw'
  go_wp2_with fail
  have hb := below_put14 HW.out (by omega : w.heap.size ≤ w.heap.size + 1) 6 T X 0
  unfold put14 at hb
  simp only [limb_zero] at hb
  exact bodyPost_ret (v := .tuple #[PV 6 T X 0, .int .i64 0]) (by simp [results, Tryd.results91, go_sem, parts, limb_zero, c0, c1, c2, c3, c4, c5, c6, c7, c8, c9, c10, c11, c12, c13]) rfl ⟨by rw [HX.out, HT2.out], hb⟩
end Go.Proofs.YtdcgcjmajacgiaaDoor

namespace Go.Proofs.YtdcgcjmajacgiaaDoor
open Go.RowKit
theorem ret_parts {c c' s s' f f' : Nat} {x x' : Int} {e : Ending} {P : Prop} (h1 : c = c') (h2 : s = s') (h3 : x = x') (h4 : f = f') (k : e = .returned (.tuple #[PV c s x f, .int .i64 0]) ∧ P) : e = .returned (.tuple #[PV c' s' x' f', .int .i64 0]) ∧ P := by
  subst h1 h2 h3 h4; exact k
theorem leadBit (f : Nat) (h : f < 4) : (((pF f : Int) - 1) / 64 = 0 ∧ ∃ s : Nat, s < 64 ∧ ((pF f : Int) - 1) % 64 = s ∧ pF f - 1 = 64 * 0 + s) ∨ (((pF f : Int) - 1) / 64 = 1 ∧ ∃ s : Nat, s < 64 ∧ ((pF f : Int) - 1) % 64 = s ∧ pF f - 1 = 64 * 1 + s) := by
  have : f = 0 ∨ f = 1 ∨ f = 2 ∨ f = 3 := by omega
  rcases this with rfl | rfl | rfl | rfl
  · left; exact ⟨by decide, 23, by decide, by decide, rfl⟩
  · left; exact ⟨by decide, 52, by decide, by decide, rfl⟩
  · left; exact ⟨by decide, 10, by decide, by decide, rfl⟩
  · right; exact ⟨by decide, 48, by decide, by decide, rfl⟩
theorem kindUnpack_yes (f b : Nat) (w : World) (h : fitsB f b = true) (hT : Tab w) :
    Calls Tryd.prog 91 #[.int .u8 f, BV b] w fun e w' => e = .returned (.tuple #[PV (clsN f b) (sigN f b) (xpN f b) (frN f b), .int .i64 0]) ∧ Below w.heap.size w w' := by
  obtain ⟨hf, hb0⟩ := (fits_iff f b).1 h
  obtain ⟨h1, h2, h3, h4, h5, h6, h7, h8⟩ := formK f hf
  have hb : b < 2 ^ (64 * 2) := Nat.lt_of_lt_of_le hb0 (Nat.pow_le_pow_right (by decide) (by have := (formB f hf).2.2.2.1; omega))
  have cT := fun w => shapeFits_any f b w hb
  rw [h] at cT
  have cP := fun w => shapePrecision_any f w (by omega)
  have cM := fun w => shapeEmin_any f w (by omega)
  have cF := fun w hT => kindFields_any f b w hf hb hT
  have cC := fun w hT => kindclass_any f b w hf hb hT
  have hx := expN_lt f b hf
  have ht := Nat.mod_lt b (two_pos (pF f - 1))
  rcases cls_cases f b with ⟨e1, e2, e3⟩ | ⟨e1, e2, e3⟩ | ⟨e1, e2, e3⟩ | ⟨e1, e2, e3⟩ | ⟨e1, e2, e3⟩
  · cases hn : negN f b
    · rw [hn] at e3
      simp only [e3, cond] at cC
      refine (kindUnpack_7 f b _ _ _ _ w hT cT cP cF cC).mono fun e w' k => ret_parts ?_ ?_ ?_ ?_ k
      · rw [e3]; rfl
      · unfold sigN; rw [e3]; rfl
      · unfold xpN; rw [e3]; rfl
      · unfold frN; rw [e3]; rfl
    · rw [hn] at e3
      simp only [e3, cond] at cC
      refine (kindUnpack_0 f b _ _ _ _ w hT cT cP cF cC).mono fun e w' k => ret_parts ?_ ?_ ?_ ?_ k
      · rw [e3]; rfl
      · unfold sigN; rw [e3]; rfl
      · unfold xpN; rw [e3]; rfl
      · unfold frN; rw [e3]; rfl
  · cases hn : (b % 2 ^ (pF f - 1)).testBit (pF f - 2)
    · rw [hn] at e3
      simp only [e3, cond] at cC
      refine (kindUnpack_8 f b _ _ _ _ w hT cT cP cF cC).mono fun e w' k => ret_parts ?_ ?_ ?_ ?_ k
      · rw [e3]; rfl
      · unfold sigN; rw [e3]; rfl
      · unfold xpN; rw [e3]; rfl
      · unfold frN; rw [e3]; rfl
    · rw [hn] at e3
      simp only [e3, cond] at cC
      refine (kindUnpack_9 f b _ _ _ _ w hT cT cP cF cC).mono fun e w' k => ret_parts ?_ ?_ ?_ ?_ k
      · rw [e3]; rfl
      · unfold sigN; rw [e3]; rfl
      · unfold xpN; rw [e3]; rfl
      · unfold frN; rw [e3]; rfl
  · cases hn : negN f b
    · rw [hn] at e3
      simp only [e3, cond] at cC
      refine (kindUnpack_4 f b _ _ _ _ w hT cT cP cF cC).mono fun e w' k => ret_parts ?_ ?_ ?_ ?_ k
      · rw [e3]; rfl
      · unfold sigN; rw [e3]; rfl
      · unfold xpN; rw [e3]; rfl
      · unfold frN; rw [e3]; rfl
    · rw [hn] at e3
      simp only [e3, cond] at cC
      refine (kindUnpack_3 f b _ _ _ _ w hT cT cP cF cC).mono fun e w' k => ret_parts ?_ ?_ ?_ ?_ k
      · rw [e3]; rfl
      · unfold sigN; rw [e3]; rfl
      · unfold xpN; rw [e3]; rfl
      · unfold frN; rw [e3]; rfl
  · cases hn : negN f b
    · rw [hn] at e3
      simp only [e3, cond] at cC
      refine (kindUnpack_5 f b _ _ _ _ _ w hT (by omega) h8 (by omega) (by omega) cM cT cP cF cC).mono fun e w' k => ret_parts ?_ ?_ ?_ ?_ k
      · rw [e3]; rfl
      · unfold sigN; rw [e3]; rfl
      · unfold xpN; rw [e3]; rfl
      · unfold frN; rw [e3]; rfl
    · rw [hn] at e3
      simp only [e3, cond] at cC
      refine (kindUnpack_2 f b _ _ _ _ _ w hT (by omega) h8 (by omega) (by omega) cM cT cP cF cC).mono fun e w' k => ret_parts ?_ ?_ ?_ ?_ k
      · rw [e3]; rfl
      · unfold sigN; rw [e3]; rfl
      · unfold xpN; rw [e3]; rfl
      · unfold frN; rw [e3]; rfl
  · cases hn : negN f b
    · rw [hn] at e3
      simp only [e3, cond] at cC
      rcases leadBit f hf with ⟨q1, s, q2, q3, q4⟩ | ⟨q1, s, q2, q3, q4⟩
      · refine (kindUnpack_6_0 f b _ _ _ _ _ w hT s (by omega) (by omega) q2 (by rw [← q4]; exact ht) q1 q3 h7 h8 (by omega) (by omega) cM cT cP cF cC).mono fun e w' k => ret_parts ?_ ?_ ?_ ?_ k
        · rw [e3]; rfl
        · unfold sigN; rw [e3, ← q4]; rfl
        · unfold xpN; rw [e3]; rfl
        · unfold frN; rw [e3]; rfl
      · refine (kindUnpack_6_1 f b _ _ _ _ _ w hT s (by omega) (by omega) q2 (by rw [← q4]; exact ht) q1 q3 h7 h8 (by omega) (by omega) cM cT cP cF cC).mono fun e w' k => ret_parts ?_ ?_ ?_ ?_ k
        · rw [e3]; rfl
        · unfold sigN; rw [e3, ← q4]; rfl
        · unfold xpN; rw [e3]; rfl
        · unfold frN; rw [e3]; rfl
    · rw [hn] at e3
      simp only [e3, cond] at cC
      rcases leadBit f hf with ⟨q1, s, q2, q3, q4⟩ | ⟨q1, s, q2, q3, q4⟩
      · refine (kindUnpack_1_0 f b _ _ _ _ _ w hT s (by omega) (by omega) q2 (by rw [← q4]; exact ht) q1 q3 h7 h8 (by omega) (by omega) cM cT cP cF cC).mono fun e w' k => ret_parts ?_ ?_ ?_ ?_ k
        · rw [e3]; rfl
        · unfold sigN; rw [e3, ← q4]; rfl
        · unfold xpN; rw [e3]; rfl
        · unfold frN; rw [e3]; rfl
      · refine (kindUnpack_1_1 f b _ _ _ _ _ w hT s (by omega) (by omega) q2 (by rw [← q4]; exact ht) q1 q3 h7 h8 (by omega) (by omega) cM cT cP cF cC).mono fun e w' k => ret_parts ?_ ?_ ?_ ?_ k
        · rw [e3]; rfl
        · unfold sigN; rw [e3, ← q4]; rfl
        · unfold xpN; rw [e3]; rfl
        · unfold frN; rw [e3]; rfl
theorem kindUnpack_not (f b : Nat) (w : World) (hb : b < 2 ^ (64 * 2)) (h : fitsB f b = false) :
    Calls Tryd.prog 91 #[.int .u8 f, BV b] w fun e w' => e = .returned (.tuple #[PV 0 0 0 0, .int .i64 2]) ∧ Below w.heap.size w w' := by
  have cT := fun w => shapeFits_any f b w hb
  rw [h] at cT
  exact kindUnpack_no f b w cT
end Go.Proofs.YtdcgcjmajacgiaaDoor

namespace Go.Proofs.YtdcgcjmajacgiaaDoor
open Go.RowKit
set_option maxHeartbeats 1600000 in
set_option maxRecDepth 100000 in
theorem roundPack_x_f (f m s p l E k lk z n1 n2 n3 bb : Nat) (e top lo : Int) (neg lo1 lo2 lo3 : Bool) (w : World) (hT : Tab w) (hp : p ≤ 113) (h1 : -1048576 ≤ e) (h2 : e ≤ 1048576) (hl4 : l ≤ 384) (cP : ∀ w, Calls Tryd.prog 65 #[.int .u8 f] w fun e w' => e = .returned (.int .i64 (p : Nat)) ∧ Below w.heap.size w w') (cR : ∀ w, Calls Tryd.prog 85 #[.int .u8 f, .int .u8 m] w fun e w' => e = .returned (.bool true) ∧ w = w') (cL : ∀ w, Calls Tryd.prog 78 #[W s] w fun e w' => e = .returned (.int .i64 (l : Nat)) ∧ Below w.heap.size w w') (hs : s < top6) (hs0 : decide (s = 0) = false) (htop : (l : Int) - 1 + e = top) (l1 : -20000 ≤ lo) (l2 : lo ≤ 20000) (t1 : -1100000 ≤ top) (t2 : top ≤ 1100000) (hE : E ≤ 16383) (cE : ∀ w, Calls Tryd.prog 86 #[.int .u8 f] w fun e w' => e = .returned (.int .i64 lo) ∧ Below w.heap.size w w') (cX : ∀ w, Calls Tryd.prog 55 #[.int .u8 f] w fun e w' => e = .returned (.int .i64 (E : Nat)) ∧ Below w.heap.size w w') (hlk : lk ≤ 384) (hov : ¬ (E : Int) < top) (hov2 : ¬ (E : Int) < (lk : Int) - 1 + (max top lo - (p : Int) + 1)) (cG : ∀ w, Tab w → Calls Tryd.prog 88 #[.int .u8 m, RV neg s e false, .int .i64 (max top lo - (p : Int) + 1)] w fun e w' => e = .returned (.tuple #[W k, .bool true]) ∧ Below w.heap.size w w') (cK : ∀ w, Calls Tryd.prog 78 #[W k] w fun e w' => e = .returned (.int .i64 (lk : Nat)) ∧ Below w.heap.size w w') (cOf : ∀ w, Calls Tryd.prog 33 #[.int .u64 (max top lo - (p : Int) + 1 - lo + (p : Int) - 1)] w fun e w' => e = .returned (W n1) ∧ Below w.heap.size w w') (cLf : ∀ w, Calls Tryd.prog 48 #[W n1, .int .i64 ((p : Int) - 1)] w fun e w' => e = .returned (.tuple #[W n2, .bool lo1]) ∧ Below w.heap.size w w') (cAd : ∀ w, Calls Tryd.prog 51 #[W n2, W k] w fun e w' => e = .returned (.tuple #[W n3, .bool lo2]) ∧ Below w.heap.size w w') (cB : ∀ w, Calls Tryd.prog 90 #[W n3] w fun e w' => e = .returned (.tuple #[BV bb, .bool lo3]) ∧ Below w.heap.size w w') (cZ : ∀ w, Calls Tryd.prog 19 #[.int .u8 f, .bool neg] w fun e w' => e = .returned (BV z) ∧ Below w.heap.size w w')  :
    Calls Tryd.prog 32 #[.int .u8 f, .int .u8 m, RV neg s e false] w fun e w' => e = .returned (.tuple #[.agg #[.int .u64 (Go.bits .or .u64 (limb bb 1) (limb z 1)), .int .u64 (Go.bits .or .u64 (limb bb 0) (limb z 0))], .int .u8 0, .int .i64 0]) ∧ Below w.heap.size w w' := by
  have H := Own.start w
  have HT := Lib.hid hT
  clear hT
  have he2 : decide (e < -1048576) = false := by simp; omega
  have he3 : decide (1048576 < e) = false := by simp; omega
  have eq1 : ∀ w, (Op.equalIn 10000 54 (.agg (limbs s)) (.agg #[.int .u64 0, .int .u64 0, .int .u64 0, .int .u64 0, .int .u64 0, .int .u64 0])).run Tryd.prog w = .ok false w := fun w => (run_equal_zero w s hs).trans (by rw [hs0])
  have v1 : IntKind.i64.wrap ((l : Int) - 1) = (l : Int) - 1 := IntWalk.i64_in _ (by omega)
  have v2 : IntKind.i64.wrap ((l : Int) - 1 + e) = top := by rw [htop]; exact IntWalk.i64_in _ (by omega)
  clear hs hs0 htop
  have hov3 : decide ((E : Int) < top) = false := by simp; omega
  have hov4 : decide ((E : Int) < (lk : Int) - 1 + (max top lo - (p : Int) + 1)) = false := by simp only [decide_eq_false_iff_not]; exact hov2
  go_enter Tryd.func32, Tryd.ntmps32
  exact walk32
set_option maxHeartbeats 1600000 in
set_option maxRecDepth 100000 in
theorem roundPack_i_f (f m s p l E k lk z n1 n2 n3 bb : Nat) (e top lo : Int) (neg lo1 lo2 lo3 : Bool) (w : World) (hT : Tab w) (hp : p ≤ 113) (h1 : -1048576 ≤ e) (h2 : e ≤ 1048576) (hl4 : l ≤ 384) (cP : ∀ w, Calls Tryd.prog 65 #[.int .u8 f] w fun e w' => e = .returned (.int .i64 (p : Nat)) ∧ Below w.heap.size w w') (cR : ∀ w, Calls Tryd.prog 85 #[.int .u8 f, .int .u8 m] w fun e w' => e = .returned (.bool true) ∧ w = w') (cL : ∀ w, Calls Tryd.prog 78 #[W s] w fun e w' => e = .returned (.int .i64 (l : Nat)) ∧ Below w.heap.size w w') (hs : s < top6) (hs0 : decide (s = 0) = false) (htop : (l : Int) - 1 + e = top) (l1 : -20000 ≤ lo) (l2 : lo ≤ 20000) (t1 : -1100000 ≤ top) (t2 : top ≤ 1100000) (hE : E ≤ 16383) (cE : ∀ w, Calls Tryd.prog 86 #[.int .u8 f] w fun e w' => e = .returned (.int .i64 lo) ∧ Below w.heap.size w w') (cX : ∀ w, Calls Tryd.prog 55 #[.int .u8 f] w fun e w' => e = .returned (.int .i64 (E : Nat)) ∧ Below w.heap.size w w') (hlk : lk ≤ 384) (hov : ¬ (E : Int) < top) (hov2 : ¬ (E : Int) < (lk : Int) - 1 + (max top lo - (p : Int) + 1)) (cG : ∀ w, Tab w → Calls Tryd.prog 88 #[.int .u8 m, RV neg s e false, .int .i64 (max top lo - (p : Int) + 1)] w fun e w' => e = .returned (.tuple #[W k, .bool false]) ∧ Below w.heap.size w w') (cK : ∀ w, Calls Tryd.prog 78 #[W k] w fun e w' => e = .returned (.int .i64 (lk : Nat)) ∧ Below w.heap.size w w') (cOf : ∀ w, Calls Tryd.prog 33 #[.int .u64 (max top lo - (p : Int) + 1 - lo + (p : Int) - 1)] w fun e w' => e = .returned (W n1) ∧ Below w.heap.size w w') (cLf : ∀ w, Calls Tryd.prog 48 #[W n1, .int .i64 ((p : Int) - 1)] w fun e w' => e = .returned (.tuple #[W n2, .bool lo1]) ∧ Below w.heap.size w w') (cAd : ∀ w, Calls Tryd.prog 51 #[W n2, W k] w fun e w' => e = .returned (.tuple #[W n3, .bool lo2]) ∧ Below w.heap.size w w') (cB : ∀ w, Calls Tryd.prog 90 #[W n3] w fun e w' => e = .returned (.tuple #[BV bb, .bool lo3]) ∧ Below w.heap.size w w') (cZ : ∀ w, Calls Tryd.prog 19 #[.int .u8 f, .bool neg] w fun e w' => e = .returned (BV z) ∧ Below w.heap.size w w') (cT : ∀ w, Tab w → Calls Tryd.prog 89 #[.int .u8 f, .int .u8 m, RV neg s e false, .int .i64 top] w fun e w' => e = .returned (.bool false) ∧ Below w.heap.size w w')  :
    Calls Tryd.prog 32 #[.int .u8 f, .int .u8 m, RV neg s e false] w fun e w' => e = .returned (.tuple #[.agg #[.int .u64 (Go.bits .or .u64 (limb bb 1) (limb z 1)), .int .u64 (Go.bits .or .u64 (limb bb 0) (limb z 0))], .int .u8 (Go.bits .or .u8 0 1), .int .i64 0]) ∧ Below w.heap.size w w' := by
  have H := Own.start w
  have HT := Lib.hid hT
  clear hT
  have he2 : decide (e < -1048576) = false := by simp; omega
  have he3 : decide (1048576 < e) = false := by simp; omega
  have eq1 : ∀ w, (Op.equalIn 10000 54 (.agg (limbs s)) (.agg #[.int .u64 0, .int .u64 0, .int .u64 0, .int .u64 0, .int .u64 0, .int .u64 0])).run Tryd.prog w = .ok false w := fun w => (run_equal_zero w s hs).trans (by rw [hs0])
  have v1 : IntKind.i64.wrap ((l : Int) - 1) = (l : Int) - 1 := IntWalk.i64_in _ (by omega)
  have v2 : IntKind.i64.wrap ((l : Int) - 1 + e) = top := by rw [htop]; exact IntWalk.i64_in _ (by omega)
  clear hs hs0 htop
  have hov3 : decide ((E : Int) < top) = false := by simp; omega
  have hov4 : decide ((E : Int) < (lk : Int) - 1 + (max top lo - (p : Int) + 1)) = false := by simp only [decide_eq_false_iff_not]; exact hov2
  go_enter Tryd.func32, Tryd.ntmps32
  exact walk32
set_option maxHeartbeats 1600000 in
set_option maxRecDepth 100000 in
theorem roundPack_u_f (f m s p l E k lk z n1 n2 n3 bb : Nat) (e top lo : Int) (neg lo1 lo2 lo3 : Bool) (w : World) (hT : Tab w) (hp : p ≤ 113) (h1 : -1048576 ≤ e) (h2 : e ≤ 1048576) (hl4 : l ≤ 384) (cP : ∀ w, Calls Tryd.prog 65 #[.int .u8 f] w fun e w' => e = .returned (.int .i64 (p : Nat)) ∧ Below w.heap.size w w') (cR : ∀ w, Calls Tryd.prog 85 #[.int .u8 f, .int .u8 m] w fun e w' => e = .returned (.bool true) ∧ w = w') (cL : ∀ w, Calls Tryd.prog 78 #[W s] w fun e w' => e = .returned (.int .i64 (l : Nat)) ∧ Below w.heap.size w w') (hs : s < top6) (hs0 : decide (s = 0) = false) (htop : (l : Int) - 1 + e = top) (l1 : -20000 ≤ lo) (l2 : lo ≤ 20000) (t1 : -1100000 ≤ top) (t2 : top ≤ 1100000) (hE : E ≤ 16383) (cE : ∀ w, Calls Tryd.prog 86 #[.int .u8 f] w fun e w' => e = .returned (.int .i64 lo) ∧ Below w.heap.size w w') (cX : ∀ w, Calls Tryd.prog 55 #[.int .u8 f] w fun e w' => e = .returned (.int .i64 (E : Nat)) ∧ Below w.heap.size w w') (hlk : lk ≤ 384) (hov : ¬ (E : Int) < top) (hov2 : ¬ (E : Int) < (lk : Int) - 1 + (max top lo - (p : Int) + 1)) (cG : ∀ w, Tab w → Calls Tryd.prog 88 #[.int .u8 m, RV neg s e false, .int .i64 (max top lo - (p : Int) + 1)] w fun e w' => e = .returned (.tuple #[W k, .bool false]) ∧ Below w.heap.size w w') (cK : ∀ w, Calls Tryd.prog 78 #[W k] w fun e w' => e = .returned (.int .i64 (lk : Nat)) ∧ Below w.heap.size w w') (cOf : ∀ w, Calls Tryd.prog 33 #[.int .u64 (max top lo - (p : Int) + 1 - lo + (p : Int) - 1)] w fun e w' => e = .returned (W n1) ∧ Below w.heap.size w w') (cLf : ∀ w, Calls Tryd.prog 48 #[W n1, .int .i64 ((p : Int) - 1)] w fun e w' => e = .returned (.tuple #[W n2, .bool lo1]) ∧ Below w.heap.size w w') (cAd : ∀ w, Calls Tryd.prog 51 #[W n2, W k] w fun e w' => e = .returned (.tuple #[W n3, .bool lo2]) ∧ Below w.heap.size w w') (cB : ∀ w, Calls Tryd.prog 90 #[W n3] w fun e w' => e = .returned (.tuple #[BV bb, .bool lo3]) ∧ Below w.heap.size w w') (cZ : ∀ w, Calls Tryd.prog 19 #[.int .u8 f, .bool neg] w fun e w' => e = .returned (BV z) ∧ Below w.heap.size w w') (cT : ∀ w, Tab w → Calls Tryd.prog 89 #[.int .u8 f, .int .u8 m, RV neg s e false, .int .i64 top] w fun e w' => e = .returned (.bool true) ∧ Below w.heap.size w w')  :
    Calls Tryd.prog 32 #[.int .u8 f, .int .u8 m, RV neg s e false] w fun e w' => e = .returned (.tuple #[.agg #[.int .u64 (Go.bits .or .u64 (limb bb 1) (limb z 1)), .int .u64 (Go.bits .or .u64 (limb bb 0) (limb z 0))], .int .u8 (Go.bits .or .u8 (Go.bits .or .u8 0 1) 2), .int .i64 0]) ∧ Below w.heap.size w w' := by
  have H := Own.start w
  have HT := Lib.hid hT
  clear hT
  have he2 : decide (e < -1048576) = false := by simp; omega
  have he3 : decide (1048576 < e) = false := by simp; omega
  have eq1 : ∀ w, (Op.equalIn 10000 54 (.agg (limbs s)) (.agg #[.int .u64 0, .int .u64 0, .int .u64 0, .int .u64 0, .int .u64 0, .int .u64 0])).run Tryd.prog w = .ok false w := fun w => (run_equal_zero w s hs).trans (by rw [hs0])
  have v1 : IntKind.i64.wrap ((l : Int) - 1) = (l : Int) - 1 := IntWalk.i64_in _ (by omega)
  have v2 : IntKind.i64.wrap ((l : Int) - 1 + e) = top := by rw [htop]; exact IntWalk.i64_in _ (by omega)
  clear hs hs0 htop
  have hov3 : decide ((E : Int) < top) = false := by simp; omega
  have hov4 : decide ((E : Int) < (lk : Int) - 1 + (max top lo - (p : Int) + 1)) = false := by simp only [decide_eq_false_iff_not]; exact hov2
  go_enter Tryd.func32, Tryd.ntmps32
  exact walk32
set_option maxHeartbeats 1600000 in
set_option maxRecDepth 100000 in
theorem roundPack_x_t (f m s p l E k lk z n1 n2 n3 bb : Nat) (e top lo : Int) (neg lo1 lo2 lo3 : Bool) (w : World) (hT : Tab w) (hp : p ≤ 113) (h1 : -1048576 ≤ e) (h2 : e ≤ 1048576) (hl4 : l ≤ 384) (hl : ¬ l < p + 2) (cP : ∀ w, Calls Tryd.prog 65 #[.int .u8 f] w fun e w' => e = .returned (.int .i64 (p : Nat)) ∧ Below w.heap.size w w') (cR : ∀ w, Calls Tryd.prog 85 #[.int .u8 f, .int .u8 m] w fun e w' => e = .returned (.bool true) ∧ w = w') (cL : ∀ w, Calls Tryd.prog 78 #[W s] w fun e w' => e = .returned (.int .i64 (l : Nat)) ∧ Below w.heap.size w w') (hs : s < top6) (hs0 : decide (s = 0) = false) (htop : (l : Int) - 1 + e = top) (l1 : -20000 ≤ lo) (l2 : lo ≤ 20000) (t1 : -1100000 ≤ top) (t2 : top ≤ 1100000) (hE : E ≤ 16383) (cE : ∀ w, Calls Tryd.prog 86 #[.int .u8 f] w fun e w' => e = .returned (.int .i64 lo) ∧ Below w.heap.size w w') (cX : ∀ w, Calls Tryd.prog 55 #[.int .u8 f] w fun e w' => e = .returned (.int .i64 (E : Nat)) ∧ Below w.heap.size w w') (hlk : lk ≤ 384) (hov : ¬ (E : Int) < top) (hov2 : ¬ (E : Int) < (lk : Int) - 1 + (max top lo - (p : Int) + 1)) (cG : ∀ w, Tab w → Calls Tryd.prog 88 #[.int .u8 m, RV neg s e true, .int .i64 (max top lo - (p : Int) + 1)] w fun e w' => e = .returned (.tuple #[W k, .bool true]) ∧ Below w.heap.size w w') (cK : ∀ w, Calls Tryd.prog 78 #[W k] w fun e w' => e = .returned (.int .i64 (lk : Nat)) ∧ Below w.heap.size w w') (cOf : ∀ w, Calls Tryd.prog 33 #[.int .u64 (max top lo - (p : Int) + 1 - lo + (p : Int) - 1)] w fun e w' => e = .returned (W n1) ∧ Below w.heap.size w w') (cLf : ∀ w, Calls Tryd.prog 48 #[W n1, .int .i64 ((p : Int) - 1)] w fun e w' => e = .returned (.tuple #[W n2, .bool lo1]) ∧ Below w.heap.size w w') (cAd : ∀ w, Calls Tryd.prog 51 #[W n2, W k] w fun e w' => e = .returned (.tuple #[W n3, .bool lo2]) ∧ Below w.heap.size w w') (cB : ∀ w, Calls Tryd.prog 90 #[W n3] w fun e w' => e = .returned (.tuple #[BV bb, .bool lo3]) ∧ Below w.heap.size w w') (cZ : ∀ w, Calls Tryd.prog 19 #[.int .u8 f, .bool neg] w fun e w' => e = .returned (BV z) ∧ Below w.heap.size w w')  :
    Calls Tryd.prog 32 #[.int .u8 f, .int .u8 m, RV neg s e true] w fun e w' => e = .returned (.tuple #[.agg #[.int .u64 (Go.bits .or .u64 (limb bb 1) (limb z 1)), .int .u64 (Go.bits .or .u64 (limb bb 0) (limb z 0))], .int .u8 0, .int .i64 0]) ∧ Below w.heap.size w w' := by
  have H := Own.start w
  have HT := Lib.hid hT
  clear hT
  have he2 : decide (e < -1048576) = false := by simp; omega
  have he3 : decide (1048576 < e) = false := by simp; omega
  have hl2 : decide ((l : Int) < (p : Int) + 2) = false := by simp; omega
  have eq1 : ∀ w, (Op.equalIn 10000 54 (.agg (limbs s)) (.agg #[.int .u64 0, .int .u64 0, .int .u64 0, .int .u64 0, .int .u64 0, .int .u64 0])).run Tryd.prog w = .ok false w := fun w => (run_equal_zero w s hs).trans (by rw [hs0])
  have v1 : IntKind.i64.wrap ((l : Int) - 1) = (l : Int) - 1 := IntWalk.i64_in _ (by omega)
  have v2 : IntKind.i64.wrap ((l : Int) - 1 + e) = top := by rw [htop]; exact IntWalk.i64_in _ (by omega)
  clear hs hs0 htop
  have hov3 : decide ((E : Int) < top) = false := by simp; omega
  have hov4 : decide ((E : Int) < (lk : Int) - 1 + (max top lo - (p : Int) + 1)) = false := by simp only [decide_eq_false_iff_not]; exact hov2
  go_enter Tryd.func32, Tryd.ntmps32
  exact walk32
set_option maxHeartbeats 1600000 in
set_option maxRecDepth 100000 in
theorem roundPack_i_t (f m s p l E k lk z n1 n2 n3 bb : Nat) (e top lo : Int) (neg lo1 lo2 lo3 : Bool) (w : World) (hT : Tab w) (hp : p ≤ 113) (h1 : -1048576 ≤ e) (h2 : e ≤ 1048576) (hl4 : l ≤ 384) (hl : ¬ l < p + 2) (cP : ∀ w, Calls Tryd.prog 65 #[.int .u8 f] w fun e w' => e = .returned (.int .i64 (p : Nat)) ∧ Below w.heap.size w w') (cR : ∀ w, Calls Tryd.prog 85 #[.int .u8 f, .int .u8 m] w fun e w' => e = .returned (.bool true) ∧ w = w') (cL : ∀ w, Calls Tryd.prog 78 #[W s] w fun e w' => e = .returned (.int .i64 (l : Nat)) ∧ Below w.heap.size w w') (hs : s < top6) (hs0 : decide (s = 0) = false) (htop : (l : Int) - 1 + e = top) (l1 : -20000 ≤ lo) (l2 : lo ≤ 20000) (t1 : -1100000 ≤ top) (t2 : top ≤ 1100000) (hE : E ≤ 16383) (cE : ∀ w, Calls Tryd.prog 86 #[.int .u8 f] w fun e w' => e = .returned (.int .i64 lo) ∧ Below w.heap.size w w') (cX : ∀ w, Calls Tryd.prog 55 #[.int .u8 f] w fun e w' => e = .returned (.int .i64 (E : Nat)) ∧ Below w.heap.size w w') (hlk : lk ≤ 384) (hov : ¬ (E : Int) < top) (hov2 : ¬ (E : Int) < (lk : Int) - 1 + (max top lo - (p : Int) + 1)) (cG : ∀ w, Tab w → Calls Tryd.prog 88 #[.int .u8 m, RV neg s e true, .int .i64 (max top lo - (p : Int) + 1)] w fun e w' => e = .returned (.tuple #[W k, .bool false]) ∧ Below w.heap.size w w') (cK : ∀ w, Calls Tryd.prog 78 #[W k] w fun e w' => e = .returned (.int .i64 (lk : Nat)) ∧ Below w.heap.size w w') (cOf : ∀ w, Calls Tryd.prog 33 #[.int .u64 (max top lo - (p : Int) + 1 - lo + (p : Int) - 1)] w fun e w' => e = .returned (W n1) ∧ Below w.heap.size w w') (cLf : ∀ w, Calls Tryd.prog 48 #[W n1, .int .i64 ((p : Int) - 1)] w fun e w' => e = .returned (.tuple #[W n2, .bool lo1]) ∧ Below w.heap.size w w') (cAd : ∀ w, Calls Tryd.prog 51 #[W n2, W k] w fun e w' => e = .returned (.tuple #[W n3, .bool lo2]) ∧ Below w.heap.size w w') (cB : ∀ w, Calls Tryd.prog 90 #[W n3] w fun e w' => e = .returned (.tuple #[BV bb, .bool lo3]) ∧ Below w.heap.size w w') (cZ : ∀ w, Calls Tryd.prog 19 #[.int .u8 f, .bool neg] w fun e w' => e = .returned (BV z) ∧ Below w.heap.size w w') (cT : ∀ w, Tab w → Calls Tryd.prog 89 #[.int .u8 f, .int .u8 m, RV neg s e true, .int .i64 top] w fun e w' => e = .returned (.bool false) ∧ Below w.heap.size w w')  :
    Calls Tryd.prog 32 #[.int .u8 f, .int .u8 m, RV neg s e true] w fun e w' => e = .returned (.tuple #[.agg #[.int .u64 (Go.bits .or .u64 (limb bb 1) (limb z 1)), .int .u64 (Go.bits .or .u64 (limb bb 0) (limb z 0))], .int .u8 (Go.bits .or .u8 0 1), .int .i64 0]) ∧ Below w.heap.size w w' := by
  have H := Own.start w
  have HT := Lib.hid hT
  clear hT
  have he2 : decide (e < -1048576) = false := by simp; omega
  have he3 : decide (1048576 < e) = false := by simp; omega
  have hl2 : decide ((l : Int) < (p : Int) + 2) = false := by simp; omega
  have eq1 : ∀ w, (Op.equalIn 10000 54 (.agg (limbs s)) (.agg #[.int .u64 0, .int .u64 0, .int .u64 0, .int .u64 0, .int .u64 0, .int .u64 0])).run Tryd.prog w = .ok false w := fun w => (run_equal_zero w s hs).trans (by rw [hs0])
  have v1 : IntKind.i64.wrap ((l : Int) - 1) = (l : Int) - 1 := IntWalk.i64_in _ (by omega)
  have v2 : IntKind.i64.wrap ((l : Int) - 1 + e) = top := by rw [htop]; exact IntWalk.i64_in _ (by omega)
  clear hs hs0 htop
  have hov3 : decide ((E : Int) < top) = false := by simp; omega
  have hov4 : decide ((E : Int) < (lk : Int) - 1 + (max top lo - (p : Int) + 1)) = false := by simp only [decide_eq_false_iff_not]; exact hov2
  go_enter Tryd.func32, Tryd.ntmps32
  exact walk32
set_option maxHeartbeats 1600000 in
set_option maxRecDepth 100000 in
theorem roundPack_u_t (f m s p l E k lk z n1 n2 n3 bb : Nat) (e top lo : Int) (neg lo1 lo2 lo3 : Bool) (w : World) (hT : Tab w) (hp : p ≤ 113) (h1 : -1048576 ≤ e) (h2 : e ≤ 1048576) (hl4 : l ≤ 384) (hl : ¬ l < p + 2) (cP : ∀ w, Calls Tryd.prog 65 #[.int .u8 f] w fun e w' => e = .returned (.int .i64 (p : Nat)) ∧ Below w.heap.size w w') (cR : ∀ w, Calls Tryd.prog 85 #[.int .u8 f, .int .u8 m] w fun e w' => e = .returned (.bool true) ∧ w = w') (cL : ∀ w, Calls Tryd.prog 78 #[W s] w fun e w' => e = .returned (.int .i64 (l : Nat)) ∧ Below w.heap.size w w') (hs : s < top6) (hs0 : decide (s = 0) = false) (htop : (l : Int) - 1 + e = top) (l1 : -20000 ≤ lo) (l2 : lo ≤ 20000) (t1 : -1100000 ≤ top) (t2 : top ≤ 1100000) (hE : E ≤ 16383) (cE : ∀ w, Calls Tryd.prog 86 #[.int .u8 f] w fun e w' => e = .returned (.int .i64 lo) ∧ Below w.heap.size w w') (cX : ∀ w, Calls Tryd.prog 55 #[.int .u8 f] w fun e w' => e = .returned (.int .i64 (E : Nat)) ∧ Below w.heap.size w w') (hlk : lk ≤ 384) (hov : ¬ (E : Int) < top) (hov2 : ¬ (E : Int) < (lk : Int) - 1 + (max top lo - (p : Int) + 1)) (cG : ∀ w, Tab w → Calls Tryd.prog 88 #[.int .u8 m, RV neg s e true, .int .i64 (max top lo - (p : Int) + 1)] w fun e w' => e = .returned (.tuple #[W k, .bool false]) ∧ Below w.heap.size w w') (cK : ∀ w, Calls Tryd.prog 78 #[W k] w fun e w' => e = .returned (.int .i64 (lk : Nat)) ∧ Below w.heap.size w w') (cOf : ∀ w, Calls Tryd.prog 33 #[.int .u64 (max top lo - (p : Int) + 1 - lo + (p : Int) - 1)] w fun e w' => e = .returned (W n1) ∧ Below w.heap.size w w') (cLf : ∀ w, Calls Tryd.prog 48 #[W n1, .int .i64 ((p : Int) - 1)] w fun e w' => e = .returned (.tuple #[W n2, .bool lo1]) ∧ Below w.heap.size w w') (cAd : ∀ w, Calls Tryd.prog 51 #[W n2, W k] w fun e w' => e = .returned (.tuple #[W n3, .bool lo2]) ∧ Below w.heap.size w w') (cB : ∀ w, Calls Tryd.prog 90 #[W n3] w fun e w' => e = .returned (.tuple #[BV bb, .bool lo3]) ∧ Below w.heap.size w w') (cZ : ∀ w, Calls Tryd.prog 19 #[.int .u8 f, .bool neg] w fun e w' => e = .returned (BV z) ∧ Below w.heap.size w w') (cT : ∀ w, Tab w → Calls Tryd.prog 89 #[.int .u8 f, .int .u8 m, RV neg s e true, .int .i64 top] w fun e w' => e = .returned (.bool true) ∧ Below w.heap.size w w')  :
    Calls Tryd.prog 32 #[.int .u8 f, .int .u8 m, RV neg s e true] w fun e w' => e = .returned (.tuple #[.agg #[.int .u64 (Go.bits .or .u64 (limb bb 1) (limb z 1)), .int .u64 (Go.bits .or .u64 (limb bb 0) (limb z 0))], .int .u8 (Go.bits .or .u8 (Go.bits .or .u8 0 1) 2), .int .i64 0]) ∧ Below w.heap.size w w' := by
  have H := Own.start w
  have HT := Lib.hid hT
  clear hT
  have he2 : decide (e < -1048576) = false := by simp; omega
  have he3 : decide (1048576 < e) = false := by simp; omega
  have hl2 : decide ((l : Int) < (p : Int) + 2) = false := by simp; omega
  have eq1 : ∀ w, (Op.equalIn 10000 54 (.agg (limbs s)) (.agg #[.int .u64 0, .int .u64 0, .int .u64 0, .int .u64 0, .int .u64 0, .int .u64 0])).run Tryd.prog w = .ok false w := fun w => (run_equal_zero w s hs).trans (by rw [hs0])
  have v1 : IntKind.i64.wrap ((l : Int) - 1) = (l : Int) - 1 := IntWalk.i64_in _ (by omega)
  have v2 : IntKind.i64.wrap ((l : Int) - 1 + e) = top := by rw [htop]; exact IntWalk.i64_in _ (by omega)
  clear hs hs0 htop
  have hov3 : decide ((E : Int) < top) = false := by simp; omega
  have hov4 : decide ((E : Int) < (lk : Int) - 1 + (max top lo - (p : Int) + 1)) = false := by simp only [decide_eq_false_iff_not]; exact hov2
  go_enter Tryd.func32, Tryd.ntmps32
  exact walk32
end Go.Proofs.YtdcgcjmajacgiaaDoor

namespace Go.Proofs.YtdcgcjmajacgiaaDoor
open Go.RowKit
set_option maxHeartbeats 1600000 in
set_option maxRecDepth 100000 in
theorem roundPack_over2_f (f m s p l E k lk o : Nat) (e top lo : Int) (neg ex : Bool) (w : World) (hT : Tab w) (hp : p ≤ 113) (h1 : -1048576 ≤ e) (h2 : e ≤ 1048576) (hl4 : l ≤ 384) (cP : ∀ w, Calls Tryd.prog 65 #[.int .u8 f] w fun e w' => e = .returned (.int .i64 (p : Nat)) ∧ Below w.heap.size w w') (cR : ∀ w, Calls Tryd.prog 85 #[.int .u8 f, .int .u8 m] w fun e w' => e = .returned (.bool true) ∧ w = w') (cL : ∀ w, Calls Tryd.prog 78 #[W s] w fun e w' => e = .returned (.int .i64 (l : Nat)) ∧ Below w.heap.size w w') (hs : s < top6) (hs0 : decide (s = 0) = false) (htop : (l : Int) - 1 + e = top) (l1 : -20000 ≤ lo) (l2 : lo ≤ 20000) (t1 : -1100000 ≤ top) (t2 : top ≤ 1100000) (hE : E ≤ 16383) (cE : ∀ w, Calls Tryd.prog 86 #[.int .u8 f] w fun e w' => e = .returned (.int .i64 lo) ∧ Below w.heap.size w w') (cX : ∀ w, Calls Tryd.prog 55 #[.int .u8 f] w fun e w' => e = .returned (.int .i64 (E : Nat)) ∧ Below w.heap.size w w') (hlk : lk ≤ 384) (hov : ¬ (E : Int) < top) (hov2 : (E : Int) < (lk : Int) - 1 + (max top lo - (p : Int) + 1)) (cG : ∀ w, Tab w → Calls Tryd.prog 88 #[.int .u8 m, RV neg s e false, .int .i64 (max top lo - (p : Int) + 1)] w fun e w' => e = .returned (.tuple #[W k, .bool ex]) ∧ Below w.heap.size w w') (cK : ∀ w, Calls Tryd.prog 78 #[W k] w fun e w' => e = .returned (.int .i64 (lk : Nat)) ∧ Below w.heap.size w w') (cO : ∀ w, Calls Tryd.prog 87 #[.int .u8 f, .int .u8 m, .bool neg] w fun e w' => e = .returned (.tuple #[BV o, .int .u8 5, .int .i64 0]) ∧ Below w.heap.size w w')  :
    Calls Tryd.prog 32 #[.int .u8 f, .int .u8 m, RV neg s e false] w fun e w' => e = .returned (.tuple #[BV o, .int .u8 5, .int .i64 0]) ∧ Below w.heap.size w w' := by
  have H := Own.start w
  have HT := Lib.hid hT
  clear hT
  have he2 : decide (e < -1048576) = false := by simp; omega
  have he3 : decide (1048576 < e) = false := by simp; omega
  have eq1 : ∀ w, (Op.equalIn 10000 54 (.agg (limbs s)) (.agg #[.int .u64 0, .int .u64 0, .int .u64 0, .int .u64 0, .int .u64 0, .int .u64 0])).run Tryd.prog w = .ok false w := fun w => (run_equal_zero w s hs).trans (by rw [hs0])
  have v1 : IntKind.i64.wrap ((l : Int) - 1) = (l : Int) - 1 := IntWalk.i64_in _ (by omega)
  have v2 : IntKind.i64.wrap ((l : Int) - 1 + e) = top := by rw [htop]; exact IntWalk.i64_in _ (by omega)
  clear hs hs0 htop
  have hov3 : decide ((E : Int) < top) = false := by simp; omega
  have hov4 : decide ((E : Int) < (lk : Int) - 1 + (max top lo - (p : Int) + 1)) = true := by simp only [decide_eq_true_eq]; exact hov2
  go_enter Tryd.func32, Tryd.ntmps32
  exact walk32
set_option maxHeartbeats 1600000 in
set_option maxRecDepth 100000 in
theorem roundPack_over2_t (f m s p l E k lk o : Nat) (e top lo : Int) (neg ex : Bool) (w : World) (hT : Tab w) (hp : p ≤ 113) (h1 : -1048576 ≤ e) (h2 : e ≤ 1048576) (hl4 : l ≤ 384) (hl : ¬ l < p + 2) (cP : ∀ w, Calls Tryd.prog 65 #[.int .u8 f] w fun e w' => e = .returned (.int .i64 (p : Nat)) ∧ Below w.heap.size w w') (cR : ∀ w, Calls Tryd.prog 85 #[.int .u8 f, .int .u8 m] w fun e w' => e = .returned (.bool true) ∧ w = w') (cL : ∀ w, Calls Tryd.prog 78 #[W s] w fun e w' => e = .returned (.int .i64 (l : Nat)) ∧ Below w.heap.size w w') (hs : s < top6) (hs0 : decide (s = 0) = false) (htop : (l : Int) - 1 + e = top) (l1 : -20000 ≤ lo) (l2 : lo ≤ 20000) (t1 : -1100000 ≤ top) (t2 : top ≤ 1100000) (hE : E ≤ 16383) (cE : ∀ w, Calls Tryd.prog 86 #[.int .u8 f] w fun e w' => e = .returned (.int .i64 lo) ∧ Below w.heap.size w w') (cX : ∀ w, Calls Tryd.prog 55 #[.int .u8 f] w fun e w' => e = .returned (.int .i64 (E : Nat)) ∧ Below w.heap.size w w') (hlk : lk ≤ 384) (hov : ¬ (E : Int) < top) (hov2 : (E : Int) < (lk : Int) - 1 + (max top lo - (p : Int) + 1)) (cG : ∀ w, Tab w → Calls Tryd.prog 88 #[.int .u8 m, RV neg s e true, .int .i64 (max top lo - (p : Int) + 1)] w fun e w' => e = .returned (.tuple #[W k, .bool ex]) ∧ Below w.heap.size w w') (cK : ∀ w, Calls Tryd.prog 78 #[W k] w fun e w' => e = .returned (.int .i64 (lk : Nat)) ∧ Below w.heap.size w w') (cO : ∀ w, Calls Tryd.prog 87 #[.int .u8 f, .int .u8 m, .bool neg] w fun e w' => e = .returned (.tuple #[BV o, .int .u8 5, .int .i64 0]) ∧ Below w.heap.size w w')  :
    Calls Tryd.prog 32 #[.int .u8 f, .int .u8 m, RV neg s e true] w fun e w' => e = .returned (.tuple #[BV o, .int .u8 5, .int .i64 0]) ∧ Below w.heap.size w w' := by
  have H := Own.start w
  have HT := Lib.hid hT
  clear hT
  have he2 : decide (e < -1048576) = false := by simp; omega
  have he3 : decide (1048576 < e) = false := by simp; omega
  have hl2 : decide ((l : Int) < (p : Int) + 2) = false := by simp; omega
  have eq1 : ∀ w, (Op.equalIn 10000 54 (.agg (limbs s)) (.agg #[.int .u64 0, .int .u64 0, .int .u64 0, .int .u64 0, .int .u64 0, .int .u64 0])).run Tryd.prog w = .ok false w := fun w => (run_equal_zero w s hs).trans (by rw [hs0])
  have v1 : IntKind.i64.wrap ((l : Int) - 1) = (l : Int) - 1 := IntWalk.i64_in _ (by omega)
  have v2 : IntKind.i64.wrap ((l : Int) - 1 + e) = top := by rw [htop]; exact IntWalk.i64_in _ (by omega)
  clear hs hs0 htop
  have hov3 : decide ((E : Int) < top) = false := by simp; omega
  have hov4 : decide ((E : Int) < (lk : Int) - 1 + (max top lo - (p : Int) + 1)) = true := by simp only [decide_eq_true_eq]; exact hov2
  go_enter Tryd.func32, Tryd.ntmps32
  exact walk32
end Go.Proofs.YtdcgcjmajacgiaaDoor

namespace Go.Proofs.YtdcgcjmajacgiaaDoor
open Go.RowKit
theorem roundTiny_any (f m s : Nat) (e top : Int) (neg mo : Bool) (w : World) (hT : Tab w) (hf : f < 4) (hm : m < 5) (hs : s < top6) (hs0 : s ≠ 0) (h1 : -1048576 ≤ e) (h2 : e ≤ 1048576) (ht : (lenN s : Int) - 1 + e = top) :
    Calls Tryd.prog 89 #[.int .u8 f, .int .u8 m, RV neg s e mo, .int .i64 top] w fun e' w' => e' = .returned (.bool (tinyB f m neg s e mo top)) ∧ Below w.heap.size w w' := by
  have hK := formK f hf
  have hp := pF_113 f
  have hl := lenN_pos s hs0
  have hl4 : lenN s ≤ 384 := (lenN_le s 384).2 (by rw [show 384 = 64 * 6 from rfl, ← top6.eq_1]; exact hs)
  have cE := fun w => shapeEmin_any f w (by omega)
  have cP := fun w => shapePrecision_any f w (by omega)
  unfold tinyB
  by_cases hq : top = eminI f - 1
  · rw [if_pos hq]
    have hk := gridN_le m s (pF f) neg mo e (top - pF f + 1) (by omega)
    have cG := fun w hT => roundGrid_any m s e (top - pF f + 1) neg mo w hT (by omega) hs (by omega) (by omega) (by omega) (by omega) (by omega)
    have cK := fun w => wideLen_any (gridN m neg s e mo (top - pF f + 1)).1 w (lt_top114 _ _ hp hk)
    exact roundTiny_eq f m s (pF f) _ _ e top (eminI f) _ neg mo _ w hT hp (by omega) (by omega) (by omega) (by omega) (by rw [hq, beq_self_eq_true]) rfl cE cP cG cK
  · rw [if_neg hq]
    exact roundTiny_ne f m s (pF f) e top (eminI f) neg mo w hT hp (by omega) (by omega) (by omega) (by omega) (by rw [beq_eq_false_iff_ne]; exact hq) cE cP
theorem roundPack_any (f m s : Nat) (e : Int) (neg mo : Bool) (w : World) (hT : Tab w) (hf : f < 256) (hm : m < 256) (hs : s < top6) :
    Calls Tryd.prog 32 #[.int .u8 f, .int .u8 m, RV neg s e mo] w fun e' w' => e' = .returned (.tuple #[BV (packN f m neg s e mo).1, .int .u8 ((packN f m neg s e mo).2.1 : Nat), .int .i64 (packN f m neg s e mo).2.2]) ∧ Below w.heap.size w w' := by
  have hp := pF_113 f
  have hl4 : lenN s ≤ 384 := (lenN_le s 384).2 (by rw [show 384 = 64 * 6 from rfl, ← top6.eq_1]; exact hs)
  have cP := fun w => shapePrecision_any f w hf
  have cR := fun w => roundRight_any f m w hf hm
  have cL := fun w => wideLen_any s w hs
  have cZ := fun w => shapeZero_any f neg w hf
  by_cases hr : (decide (f < 4) && decide (m < 5)) = true
  case neg =>
    have hr' : (decide (f < 4) && decide (m < 5)) = false := by cases h : (decide (f < 4) && decide (m < 5)) <;> simp_all
    have hN : packN f m neg s e mo = (0, 0, 2) := by unfold packN packOk; rw [hr']; simp only [Bool.false_and, Bool.false_eq_true, if_false]
    rw [hN]
    rw [hr'] at cR
    exact roundPack_right f m s _ e neg mo w hp cP cR
  rw [hr] at cR
  have hf4 : f < 4 := by simp only [Bool.and_eq_true, decide_eq_true_eq] at hr; exact hr.1
  have hm5 : m < 5 := by simp only [Bool.and_eq_true, decide_eq_true_eq] at hr; exact hr.2
  by_cases he1 : e < -1048576
  · have hN : packN f m neg s e mo = (0, 0, 2) := by unfold packN packOk; rw [decide_eq_false (show ¬ -1048576 ≤ e by omega)]; simp only [Bool.and_false, Bool.false_and, Bool.false_eq_true, if_false]
    rw [hN]
    exact roundPack_low f m s _ e neg mo w hp he1 cP cR
  by_cases he2 : 1048576 < e
  · have hN : packN f m neg s e mo = (0, 0, 2) := by unfold packN packOk; rw [decide_eq_false (show ¬ e ≤ 1048576 by omega)]; simp only [Bool.and_false, Bool.false_and, Bool.false_eq_true, if_false]
    rw [hN]
    exact roundPack_high f m s _ e neg mo w hp he2 cP cR
  by_cases hmo : (mo && decide (lenN s < pF f + 2)) = true
  · have hN : packN f m neg s e mo = (0, 0, 2) := by unfold packN packOk; rw [hmo]; simp only [Bool.not_true, Bool.and_false, Bool.false_eq_true, if_false]
    rw [hN]
    have ht : mo = true := by cases mo <;> simp_all
    subst ht
    exact roundPack_more f m s (pF f) (lenN s) e neg w hp (by omega) (by omega) (by simpa using hmo) hl4 cP cR cL
  have hmo' : (mo && decide (lenN s < pF f + 2)) = false := by cases h : (mo && decide (lenN s < pF f + 2)) <;> simp_all
  have hok : packOk f m s e mo = true := by
    unfold packOk
    rw [hr, hmo', decide_eq_true (show -1048576 ≤ e by omega), decide_eq_true (show e ≤ 1048576 by omega)]; rfl
  have hl : mo = true → ¬ lenN s < pF f + 2 := by intro ht; subst ht; simpa using hmo'
  by_cases hz : s = 0
  · have hN : packN f m neg s e mo = (zeroN f neg, 0, 0) := by unfold packN; rw [if_pos hok, if_pos hz]
    rw [hN]
    cases mo with
    | false => exact roundPack_zero_f f m s (pF f) (lenN s) _ e neg w hT hp (by omega) (by omega) hl4 cP cR cL hs (decide_eq_true hz) cZ
    | true => exact roundPack_zero_t f m s (pF f) (lenN s) _ e neg w hT hp (by omega) (by omega) hl4 (hl rfl) cP cR cL hs (decide_eq_true hz) cZ
  have hN : packN f m neg s e mo = ((packB f m neg s e mo).1, (packB f m neg s e mo).2, 0) := by unfold packN; rw [if_pos hok, if_neg hz]
  rw [hN]
  have hK := formK f hf4
  have hl1 := lenN_pos s hz
  have cE := fun w => shapeEmin_any f w hf
  have cX := fun w => shapeEmax_any f w hf
  have cO := fun w => roundOver_any f m neg w hf4 hm5
  obtain ⟨top, htop⟩ : ∃ top, (lenN s : Int) - 1 + e = top := ⟨_, rfl⟩
  have hz' := decide_eq_false hz
  unfold packB
  rw [htop]
  by_cases hov : (eF f : Int) < top
  · rw [if_pos hov]
    cases mo with
    | false => exact roundPack_over_f f m s (pF f) (lenN s) (eF f) _ e top (eminI f) neg w hT hp (by omega) (by omega) hl4 cP cR cL hs hz' htop (by omega) (by omega) (by omega) (by omega) (by omega) cE cX hov cO
    | true => exact roundPack_over_t f m s (pF f) (lenN s) (eF f) _ e top (eminI f) neg w hT hp (by omega) (by omega) hl4 (hl rfl) cP cR cL hs hz' htop (by omega) (by omega) (by omega) (by omega) (by omega) cE cX hov cO
  rw [if_neg hov]
  have hat : atN f top = max top (eminI f) - (pF f : Int) + 1 := rfl
  have hk := gridN_le m s (pF f) neg mo e (atN f top) (by rw [hat]; omega)
  have cG := fun w hT => roundGrid_any m s e (atN f top) neg mo w hT hm hs (by omega) (by omega) (by rw [hat]; omega) (by rw [hat]; omega) (by rw [hat]; omega)
  have cT := fun w hT => roundTiny_any f m s e top neg mo w hT hf4 hm5 hs hz (by omega) (by omega) htop
  obtain ⟨k, ex, hg⟩ : ∃ k ex, gridN m neg s e mo (atN f top) = (k, ex) := ⟨_, _, rfl⟩
  rw [hg] at cG hk ⊢
  rw [hat] at cG
  have hk' : k ≤ 2 ^ pF f := hk
  have hkt := lt_top114 k _ hp hk'
  have hkl := lenN_le_of k _ hk'
  have cK := fun w => wideLen_any k w hkt
  by_cases hov2 : (eF f : Int) < lenN k - 1 + atN f top
  · rw [if_pos hov2]
    rw [hat] at hov2
    cases mo with
    | false => exact roundPack_over2_f f m s (pF f) (lenN s) (eF f) k (lenN k) _ e top (eminI f) neg ex w hT hp (by omega) (by omega) hl4 cP cR cL hs hz' htop (by omega) (by omega) (by omega) (by omega) (by omega) cE cX (by omega) hov hov2 cG cK cO
    | true => exact roundPack_over2_t f m s (pF f) (lenN s) (eF f) k (lenN k) _ e top (eminI f) neg ex w hT hp (by omega) (by omega) hl4 (hl rfl) cP cR cL hs hz' htop (by omega) (by omega) (by omega) (by omega) (by omega) cE cX (by omega) hov hov2 cG cK cO
  rw [if_neg hov2]
  rw [hat] at hov2
  obtain ⟨d, hd⟩ : ∃ d : Nat, d = (max top (eminI f) - eminI f).toNat := ⟨_, rfl⟩
  have hd1 : max top (eminI f) - (pF f : Int) + 1 - eminI f + (pF f : Int) - 1 = (d : Int) := by omega
  have hd2 : (atN f top - eminI f + pF f - 1).toNat = d := by rw [hat]; omega
  have hen := enc_lt f k d hf4 hk' (by omega)
  have cOf := fun w => wideOf_any d w (by omega)
  rw [← hd1] at cOf
  have cLf := fun w => wideLeft_any d ((pF f : Int) - 1) w (lt_top_bits d (by omega))
  have hcl : clip ((pF f : Int) - 1) = pF f - 1 := by unfold clip; omega
  rw [hcl] at cLf
  have cAd := fun w => wideAdd_any (d * 2 ^ (pF f - 1)) k w
  have hw : 2 ^ (wF f - 1) ≤ 2 ^ (64 * 2) := Nat.pow_le_pow_right (by decide) (by rcases forms f with rfl | rfl | rfl | rfl | h <;> first | decide | omega)
  have cB := fun w => wideToBits_any (d * 2 ^ (pF f - 1) + k) w (Nat.lt_of_lt_of_le hen hw)
  have hzn : zeroN f neg = signN f neg := by unfold zeroN; rw [decide_eq_true hf4, cond_true]
  have hor : (d * 2 ^ (pF f - 1) + k) ||| zeroN f neg = encN f neg k (atN f top) := by
    rw [hzn, or_sign f _ neg hen]; unfold encN; rw [hd2]
  have fin : ∀ fl : Value, Ending.returned (.tuple #[.agg #[.int .u64 (Go.bits .or .u64 (limb (d * 2 ^ (pF f - 1) + k) 1) (limb (zeroN f neg) 1)), .int .u64 (Go.bits .or .u64 (limb (d * 2 ^ (pF f - 1) + k) 0) (limb (zeroN f neg) 0))], fl, .int .i64 0]) = .returned (.tuple #[BV (encN f neg k (atN f top)), fl, .int .i64 0]) := by
    intro fl
    have h := pair_or (d * 2 ^ (pF f - 1) + k) (zeroN f neg)
    rw [hor] at h
    injection h with h
    rw [h]
  cases ex with
  | true =>
    simp only [cond_true]
    cases mo with
    | false =>
      refine (roundPack_x_f f m s (pF f) (lenN s) (eF f) k (lenN k) _ d _ _ _ e top (eminI f) neg _ _ _ w hT hp (by omega) (by omega) hl4 cP cR cL hs hz' htop (by omega) (by omega) (by omega) (by omega) (by omega) cE cX (by omega) hov hov2 cG cK cOf cLf cAd cB cZ).mono ?_
      intro e' w' ⟨he, hb⟩
      exact ⟨he.trans (fin _), hb⟩
    | true =>
      refine (roundPack_x_t f m s (pF f) (lenN s) (eF f) k (lenN k) _ d _ _ _ e top (eminI f) neg _ _ _ w hT hp (by omega) (by omega) hl4 (hl rfl) cP cR cL hs hz' htop (by omega) (by omega) (by omega) (by omega) (by omega) cE cX (by omega) hov hov2 cG cK cOf cLf cAd cB cZ).mono ?_
      intro e' w' ⟨he, hb⟩
      exact ⟨he.trans (fin _), hb⟩
  | false =>
    simp only [cond_false]
    cases hty : tinyB f m neg s e mo top with
    | false =>
      rw [hty] at cT
      simp only [cond_false]
      cases mo with
      | false =>
        refine (roundPack_i_f f m s (pF f) (lenN s) (eF f) k (lenN k) _ d _ _ _ e top (eminI f) neg _ _ _ w hT hp (by omega) (by omega) hl4 cP cR cL hs hz' htop (by omega) (by omega) (by omega) (by omega) (by omega) cE cX (by omega) hov hov2 cG cK cOf cLf cAd cB cZ cT).mono ?_
        intro e' w' ⟨he, hb⟩
        exact ⟨he.trans (fin _), hb⟩
      | true =>
        refine (roundPack_i_t f m s (pF f) (lenN s) (eF f) k (lenN k) _ d _ _ _ e top (eminI f) neg _ _ _ w hT hp (by omega) (by omega) hl4 (hl rfl) cP cR cL hs hz' htop (by omega) (by omega) (by omega) (by omega) (by omega) cE cX (by omega) hov hov2 cG cK cOf cLf cAd cB cZ cT).mono ?_
        intro e' w' ⟨he, hb⟩
        exact ⟨he.trans (fin _), hb⟩
    | true =>
      rw [hty] at cT
      simp only [cond_true]
      cases mo with
      | false =>
        refine (roundPack_u_f f m s (pF f) (lenN s) (eF f) k (lenN k) _ d _ _ _ e top (eminI f) neg _ _ _ w hT hp (by omega) (by omega) hl4 cP cR cL hs hz' htop (by omega) (by omega) (by omega) (by omega) (by omega) cE cX (by omega) hov hov2 cG cK cOf cLf cAd cB cZ cT).mono ?_
        intro e' w' ⟨he, hb⟩
        exact ⟨he.trans (fin _), hb⟩
      | true =>
        refine (roundPack_u_t f m s (pF f) (lenN s) (eF f) k (lenN k) _ d _ _ _ e top (eminI f) neg _ _ _ w hT hp (by omega) (by omega) hl4 (hl rfl) cP cR cL hs hz' htop (by omega) (by omega) (by omega) (by omega) (by omega) cE cX (by omega) hov hov2 cG cK cOf cLf cAd cB cZ cT).mono ?_
        intro e' w' ⟨he, hb⟩
        exact ⟨he.trans (fin _), hb⟩
end Go.Proofs.YtdcgcjmajacgiaaDoor

namespace Go.Proofs.YtdcgcjmajacgiaaDoor
open Go.RowKit
section
variable {P : Program} {w : World} {op : Oper} {a : Act} {Q : Exit → Act → World → Prop} {ops : Array Oper} {rest : List Oper}
theorem run_build {t : TypeId} {n : Nat} {z : Array Value} {fs : Array Field} {places : Array (Nat × Nat)} (R : IsRow P t n z) (hu : P.underlying t = some (.struct fs))
    (hp : (fs.mapM fun f => do pure (f.offset, ← sizeOf f.type) : Sem (Array (Nat × Nat))).run P w = .ok places w) (ps : Array (Nat × Value)) (cs : Array Value) (hf : Instr.fill (places[·]?) z ps.toList = some cs) :
    (Instr.build t ps).run P w = .ok (.agg cs) w := by
  have hz := run_zeroValue R.zero w
  unfold Instr.build
  simp only [Sem.run_bind, hz, Result.andThen_ok, run_underlying hu, hp, Value.cells, hf]
  rfl
theorem fill_step (place : Nat → Option (Nat × Nat)) (cells : Array Value) (i off size : Nat) (v : Value) (rest : List (Nat × Value)) (hp : place i = some (off, size)) (h1 : v.cells.size = size) (h2 : off + size ≤ cells.size) :
    Instr.fill place cells ((i, v) :: rest) = Instr.fill place (setRow cells off v.cells.toList) rest := by
  rw [Instr.fill]
  simp only [hp]
  rw [if_neg (by simp [h1]; omega), foldl_cells]
theorem wp_bld {t : TypeId} {ps : Array (Nat × Operand)} (hw : Region.wanted op (yielded ops a.tmps) = true) (ho : op.op = .build t ps) {vs : Array (Nat × Value)} (hvs : (ps.map fun (i, x) => (i, a.eval x)) = vs) {v : Value}
    (hv : ∀ w, (Instr.build t vs).run P w = .ok v w) (h : wpList P ops Q rest (a.put op.dst v) w) : wpList P ops Q (op :: rest) a w := by
  refine wp_wanted hw fun K hK => ?_
  subst hvs
  have hk := hK _ _ h
  unfold Oper.wp execOp
  simp only [ho, Sem.run_bind, hv, Result.andThen_ok]
  exact hk
theorem wp_bld2 {t : TypeId} {i j : Nat} {x y : Operand} (hw : Region.wanted op (yielded ops a.tmps) = true) (ho : op.op = .build t #[(i, x), (j, y)]) {u1 u2 : Value} (h1 : a.eval x = u1) (h2 : a.eval y = u2) {v : Value}
    (hv : ∀ w, (Instr.build t #[(i, u1), (j, u2)]).run P w = .ok v w) (h : wpList P ops Q rest (a.put op.dst v) w) : wpList P ops Q (op :: rest) a w :=
  wp_bld hw ho (by simp [h1, h2]) hv h
end
/-- Where the parts of a rough number lie. -/
def roughAt : Array (Nat × Nat) := #[(0, 1), (1, 6), (7, 1), (8, 1)]
theorem rough_0 (neg : Bool) (s : Nat) (e : Int) (mo neg' : Bool) (rest : List (Nat × Value)) : Instr.fill (roughAt[·]?) (rough neg s e mo) ((0, .bool neg') :: rest) = Instr.fill (roughAt[·]?) (rough neg' s e mo) rest := fill_step _ _ 0 0 1 _ _ rfl rfl (show 0 + 1 ≤ 9 by decide)
theorem rough_1 (neg : Bool) (s : Nat) (e : Int) (mo : Bool) (s' : Nat) (rest : List (Nat × Value)) : Instr.fill (roughAt[·]?) (rough neg s e mo) ((1, W s') :: rest) = Instr.fill (roughAt[·]?) (rough neg s' e mo) rest := fill_step _ _ 1 1 6 _ _ rfl rfl (show 1 + 6 ≤ 9 by decide)
theorem places_rough (w : World) : ∃ fs, Tryd.prog.underlying 57 = some (.struct fs) ∧ (fs.mapM fun f => do pure (f.offset, ← sizeOf f.type) : Sem (Array (Nat × Nat))).run Tryd.prog w = .ok roughAt w := by
  refine ⟨_, Tryd.underlying57, ?_⟩
  unfold roughAt
  go_simp
theorem run_rough (w : World) (ps : Array (Nat × Value)) (cs : Array Value) (hf : Instr.fill (roughAt[·]?) (rough false 0 0 false) ps.toList = some cs) : (Instr.build 57 ps).run Tryd.prog w = .ok (.agg cs) w := by
  obtain ⟨fs, hu, hp⟩ := places_rough w
  exact run_build rR hu hp ps cs hf
theorem rough_ns (neg : Bool) (s : Nat) (w : World) : (Instr.build 57 #[(0, .bool neg), (1, W s)]).run Tryd.prog w = .ok (RV neg s 0 false) w :=
  run_rough w _ _ (by show Instr.fill _ _ [_, _] = _; rw [rough_0, rough_1]; rfl)
end Go.Proofs.YtdcgcjmajacgiaaDoor
