/- Part 11 of the proof. -/
import Derived.Test.YtgmhmpflmgfcdaaGreatDoorHm1
import Derived.Test.YtgmhmpflmgfcdaaGreatDoorHm2
import Derived.Test.YtgmhmpflmgfcdaaGreatDoorHm3
import Derived.Test.YtgmhmpflmgfcdaaGreatDoorHm4
import Derived.Test.YtgmhmpflmgfcdaaGreatDoorHm5
import Derived.Test.YtgmhmpflmgfcdaaGreatDoorHm6
import Derived.Test.YtgmhmpflmgfcdaaGreatDoorHm7
import Derived.Test.YtgmhmpflmgfcdaaGreatDoorHm9
import Derived.Test.YtgmhmpflmgfcdaaGreatDoorHm10
set_option linter.unusedSimpArgs false
set_option linter.unusedVariables false
set_option linter.unnecessarySimpa false
set_option maxRecDepth 100000
set_option maxHeartbeats 3200000
namespace Go.Proofs.YtgmhmpflmgfcdaaGreatDoor
open Go.RowKit
theorem mulMul_IF (f m a b : Nat) (c1 s1 f1 : Nat) (x1 : Int) (c2 s2 f2 : Nat) (x2 : Int) (c3 s3 f3 : Nat) (x3 : Int) (b1 b2 : Bool) (w : World) (hT : Tab w) (cO : ∀ w g, Tab w → Blk 27 w g (cat2 (bc a) (bc b)) → CR_ 91 #[.int .u8 f, .int .u8 m, .slice (some ⟨g, 0, none⟩) 2 2] w (.tuple #[.agg (tri c1 s1 x1 f1 c2 s2 x2 f2 c3 s3 x3 f3), .bool true])) (cb1 : CK_ 172 #[PV c1 s1 x1 f1] (.bool b1)) (cb2 : CK_ 172 #[PV c2 s2 x2 f2] (.bool b2)) (cn1 : CK_ 173 #[PV c1 s1 x1 f1] (.bool false)) (cn2 : CK_ 173 #[PV c2 s2 x2 f2] (.bool false)) (ci1 : CK_ 175 #[PV c1 s1 x1 f1] (.bool true)) (ci2 : CK_ 175 #[PV c2 s2 x2 f2] (.bool false)) (cz1 : CK_ 176 #[PV c1 s1 x1 f1] (.bool false)) (cz2 : CK_ 176 #[PV c2 s2 x2 f2] (.bool false)) (ii : Nat) (cII : CK_ 77 #[.int .u8 f, .bool (!(b1 == b2))] (BV ii)) :
  CR_ 90 #[.int .u8 f, .int .u8 m, BV a, BV b] w (.tuple #[BV ii, .int .u8 0, .int .i64 0]) := by
 have H := Own.start w
 have HT := Lib.hid hT
 clear hT
 go_enter Tryz.func90, Tryz.ntmps90
 exact walk1
theorem mulMul_FI (f m a b : Nat) (c1 s1 f1 : Nat) (x1 : Int) (c2 s2 f2 : Nat) (x2 : Int) (c3 s3 f3 : Nat) (x3 : Int) (b1 b2 : Bool) (w : World) (hT : Tab w) (cO : ∀ w g, Tab w → Blk 27 w g (cat2 (bc a) (bc b)) → CR_ 91 #[.int .u8 f, .int .u8 m, .slice (some ⟨g, 0, none⟩) 2 2] w (.tuple #[.agg (tri c1 s1 x1 f1 c2 s2 x2 f2 c3 s3 x3 f3), .bool true])) (cb1 : CK_ 172 #[PV c1 s1 x1 f1] (.bool b1)) (cb2 : CK_ 172 #[PV c2 s2 x2 f2] (.bool b2)) (cn1 : CK_ 173 #[PV c1 s1 x1 f1] (.bool false)) (cn2 : CK_ 173 #[PV c2 s2 x2 f2] (.bool false)) (ci1 : CK_ 175 #[PV c1 s1 x1 f1] (.bool false)) (ci2 : CK_ 175 #[PV c2 s2 x2 f2] (.bool true)) (cz1 : CK_ 176 #[PV c1 s1 x1 f1] (.bool false)) (cz2 : CK_ 176 #[PV c2 s2 x2 f2] (.bool false)) (ii : Nat) (cII : CK_ 77 #[.int .u8 f, .bool (!(b1 == b2))] (BV ii)) :
  CR_ 90 #[.int .u8 f, .int .u8 m, BV a, BV b] w (.tuple #[BV ii, .int .u8 0, .int .i64 0]) := by
 have H := Own.start w
 have HT := Lib.hid hT
 clear hT
 go_enter Tryz.func90, Tryz.ntmps90
 exact walk1
theorem mulMul_ZZ (f m a b : Nat) (c1 s1 f1 : Nat) (x1 : Int) (c2 s2 f2 : Nat) (x2 : Int) (c3 s3 f3 : Nat) (x3 : Int) (b1 b2 : Bool) (w : World) (hT : Tab w) (cO : ∀ w g, Tab w → Blk 27 w g (cat2 (bc a) (bc b)) → CR_ 91 #[.int .u8 f, .int .u8 m, .slice (some ⟨g, 0, none⟩) 2 2] w (.tuple #[.agg (tri c1 s1 x1 f1 c2 s2 x2 f2 c3 s3 x3 f3), .bool true])) (cb1 : CK_ 172 #[PV c1 s1 x1 f1] (.bool b1)) (cb2 : CK_ 172 #[PV c2 s2 x2 f2] (.bool b2)) (cn1 : CK_ 173 #[PV c1 s1 x1 f1] (.bool false)) (cn2 : CK_ 173 #[PV c2 s2 x2 f2] (.bool false)) (ci1 : CK_ 175 #[PV c1 s1 x1 f1] (.bool false)) (ci2 : CK_ 175 #[PV c2 s2 x2 f2] (.bool false)) (cz1 : CK_ 176 #[PV c1 s1 x1 f1] (.bool true)) (cz2 : CK_ 176 #[PV c2 s2 x2 f2] (.bool true)) (zz : Nat) (cZZ : CK_ 78 #[.int .u8 f, .bool (!(b1 == b2))] (BV zz)) :
  CR_ 90 #[.int .u8 f, .int .u8 m, BV a, BV b] w (.tuple #[BV zz, .int .u8 0, .int .i64 0]) := by
 have H := Own.start w
 have HT := Lib.hid hT
 clear hT
 go_enter Tryz.func90, Tryz.ntmps90
 exact walk1
theorem mulMul_ZF (f m a b : Nat) (c1 s1 f1 : Nat) (x1 : Int) (c2 s2 f2 : Nat) (x2 : Int) (c3 s3 f3 : Nat) (x3 : Int) (b1 b2 : Bool) (w : World) (hT : Tab w) (cO : ∀ w g, Tab w → Blk 27 w g (cat2 (bc a) (bc b)) → CR_ 91 #[.int .u8 f, .int .u8 m, .slice (some ⟨g, 0, none⟩) 2 2] w (.tuple #[.agg (tri c1 s1 x1 f1 c2 s2 x2 f2 c3 s3 x3 f3), .bool true])) (cb1 : CK_ 172 #[PV c1 s1 x1 f1] (.bool b1)) (cb2 : CK_ 172 #[PV c2 s2 x2 f2] (.bool b2)) (cn1 : CK_ 173 #[PV c1 s1 x1 f1] (.bool false)) (cn2 : CK_ 173 #[PV c2 s2 x2 f2] (.bool false)) (ci1 : CK_ 175 #[PV c1 s1 x1 f1] (.bool false)) (ci2 : CK_ 175 #[PV c2 s2 x2 f2] (.bool false)) (cz1 : CK_ 176 #[PV c1 s1 x1 f1] (.bool true)) (cz2 : CK_ 176 #[PV c2 s2 x2 f2] (.bool false)) (zz : Nat) (cZZ : CK_ 78 #[.int .u8 f, .bool (!(b1 == b2))] (BV zz)) :
  CR_ 90 #[.int .u8 f, .int .u8 m, BV a, BV b] w (.tuple #[BV zz, .int .u8 0, .int .i64 0]) := by
 have H := Own.start w
 have HT := Lib.hid hT
 clear hT
 go_enter Tryz.func90, Tryz.ntmps90
 exact walk1
theorem mulMul_FZ (f m a b : Nat) (c1 s1 f1 : Nat) (x1 : Int) (c2 s2 f2 : Nat) (x2 : Int) (c3 s3 f3 : Nat) (x3 : Int) (b1 b2 : Bool) (w : World) (hT : Tab w) (cO : ∀ w g, Tab w → Blk 27 w g (cat2 (bc a) (bc b)) → CR_ 91 #[.int .u8 f, .int .u8 m, .slice (some ⟨g, 0, none⟩) 2 2] w (.tuple #[.agg (tri c1 s1 x1 f1 c2 s2 x2 f2 c3 s3 x3 f3), .bool true])) (cb1 : CK_ 172 #[PV c1 s1 x1 f1] (.bool b1)) (cb2 : CK_ 172 #[PV c2 s2 x2 f2] (.bool b2)) (cn1 : CK_ 173 #[PV c1 s1 x1 f1] (.bool false)) (cn2 : CK_ 173 #[PV c2 s2 x2 f2] (.bool false)) (ci1 : CK_ 175 #[PV c1 s1 x1 f1] (.bool false)) (ci2 : CK_ 175 #[PV c2 s2 x2 f2] (.bool false)) (cz1 : CK_ 176 #[PV c1 s1 x1 f1] (.bool false)) (cz2 : CK_ 176 #[PV c2 s2 x2 f2] (.bool true)) (zz : Nat) (cZZ : CK_ 78 #[.int .u8 f, .bool (!(b1 == b2))] (BV zz)) :
  CR_ 90 #[.int .u8 f, .int .u8 m, BV a, BV b] w (.tuple #[BV zz, .int .u8 0, .int .i64 0]) := by
 have H := Own.start w
 have HT := Lib.hid hT
 clear hT
 go_enter Tryz.func90, Tryz.ntmps90
 exact walk1
theorem mulMul_FF (f m a b : Nat) (c1 s1 f1 : Nat) (x1 : Int) (c2 s2 f2 : Nat) (x2 : Int) (c3 s3 f3 : Nat) (x3 : Int) (b1 b2 : Bool) (w : World) (hT : Tab w) (cO : ∀ w g, Tab w → Blk 27 w g (cat2 (bc a) (bc b)) → CR_ 91 #[.int .u8 f, .int .u8 m, .slice (some ⟨g, 0, none⟩) 2 2] w (.tuple #[.agg (tri c1 s1 x1 f1 c2 s2 x2 f2 c3 s3 x3 f3), .bool true])) (cb1 : CK_ 172 #[PV c1 s1 x1 f1] (.bool b1)) (cb2 : CK_ 172 #[PV c2 s2 x2 f2] (.bool b2)) (cn1 : CK_ 173 #[PV c1 s1 x1 f1] (.bool false)) (cn2 : CK_ 173 #[PV c2 s2 x2 f2] (.bool false)) (ci1 : CK_ 175 #[PV c1 s1 x1 f1] (.bool false)) (ci2 : CK_ 175 #[PV c2 s2 x2 f2] (.bool false)) (cz1 : CK_ 176 #[PV c1 s1 x1 f1] (.bool false)) (cz2 : CK_ 176 #[PV c2 s2 x2 f2] (.bool false)) (hx1 : -40000 ≤ x1) (hx1b : x1 ≤ 40000) (hx2 : -40000 ≤ x2) (hx2b : x2 ≤ 40000) (s : Nat) (o : Bool) (r : Nat) (fl : Int) (er : Int) (cM : CK_ 116 #[W s1, W s2] (.tuple #[W s, .bool o])) (cK : CT_ 61 #[.int .u8 f, .int .u8 m, RV (!(b1 == b2)) s (x1 + x2) false] (.tuple #[BV r, .int .u8 fl, .int .i64 er])) :
  CR_ 90 #[.int .u8 f, .int .u8 m, BV a, BV b] w (.tuple #[BV r, .int .u8 fl, .int .i64 er]) := by
 have H := Own.start w
 have HT := Lib.hid hT
 clear hT
 go_enter Tryz.func90, Tryz.ntmps90
 exact walk1
theorem mulOpen_any (f m a b : Nat) (hf : f < 256) (hm : m < 256) (ha : a < 2 ^ (64 * 2)) (hb : b < 2 ^ (64 * 2)) :
  ∃ c1 s1 f1 x1 c2 s2 f2 x2, (binOk f m a b = true → c1 = clsN f a ∧ s1 = sigN f a ∧ x1 = xpN f a ∧ f1 = frN f a ∧ c2 = clsN f b ∧ s2 = sigN f b ∧ x2 = xpN f b ∧ f2 = frN f b) ∧
  ∀ (w : World) (g : Nat), Tab w → Blk 27 w g (cat2 (bc a) (bc b)) → CR_ 91 #[.int .u8 f, .int .u8 m, .slice (some ⟨g, 0, none⟩) 2 2] w (.tuple #[.agg (tri c1 s1 x1 f1 c2 s2 x2 f2 0 0 0 0), .bool (binOk f m a b)]) := by
 have cM := fun w => shapeCheckMode_any m w hm
 have cF := fun w => shapeCheck_any f w hf
 by_cases hm5 : m < 5
 case neg =>
  have e : binOk f m a b = false := by unfold binOk; rw [decide_eq_false hm5]; simp
  rw [decide_eq_false hm5] at cM
  rw [e]
  exact ⟨0, 0, 0, 0, 0, 0, 0, 0, (fun h => by cases h), fun w g _ hB => mul_open2_mode f m a b w g hB cM⟩
 rw [decide_eq_true hm5] at cM
 by_cases hf4 : f < 4
 case neg =>
  have e : binOk f m a b = false := by unfold binOk; rw [decide_eq_false hf4]; simp
  rw [decide_eq_false hf4] at cF
  rw [e]
  exact ⟨0, 0, 0, 0, 0, 0, 0, 0, (fun h => by cases h), fun w g _ hB => mul_open2_form f m a b w g hB cM cF⟩
 rw [decide_eq_true hf4] at cF
 cases ha' : fitsB f a
 ·have e : binOk f m a b = false := by unfold binOk; rw [ha']; simp
  rw [e]
  exact ⟨0, 0, 0, 0, 0, 0, 0, 0, (fun h => by cases h), fun w g hT hB => mul_open2_no0 f m a b w hT g hB cM cF (fun w _ => kindUnpack_not f a w ha ha')⟩
 cases hb' : fitsB f b
 ·have e : binOk f m a b = false := by unfold binOk; rw [hb']; simp
  rw [e]
  exact ⟨_, _, _, _, 0, 0, 0, 0, (fun h => by cases h), fun w g hT hB => mul_open2_no1 f m a b w hT g hB cM cF (fun w hT => kindUnpack_yes f a w ha' hT) (fun w _ => kindUnpack_not f b w hb hb')⟩
 have e : binOk f m a b = true := by unfold binOk; rw [ha', hb', decide_eq_true hm5, decide_eq_true hf4]; rfl
 rw [e]
 exact ⟨_, _, _, _, _, _, _, _, fun _ => ⟨rfl, rfl, rfl, rfl, rfl, rfl, rfl, rfl⟩, fun w g hT hB => mul_open2_ok f m a b w hT g hB cM cF (fun w hT => kindUnpack_yes f a w ha' hT) (fun w hT => kindUnpack_yes f b w hb' hT)⟩
theorem mulMul_any (f m a b : Nat) (w : World) (hf : f < 256) (hm : m < 256) (ha : a < 2 ^ (64 * 2)) (hb : b < 2 ^ (64 * 2)) (hT : Tab w) :
  CR_ 90 #[.int .u8 f, .int .u8 m, BV a, BV b] w (.tuple #[BV (mulN f m a b).1, .int .u8 ((mulN f m a b).2.1 : Nat), .int .i64 (mulN f m a b).2.2]) := by
 obtain ⟨c1, s1, f1, x1, c2, s2, f2, x2, hv, cO⟩ := mulOpen_any f m a b hf hm ha hb
 cases hok : binOk f m a b
 ·have hN : mulN f m a b = (0, 0, 2) := by unfold mulN; rw [hok]; rfl
  rw [hok] at cO
  rw [hN]
  exact mulMul_no f m a b _ _ _ _ _ _ _ _ _ _ _ _ w hT cO
 obtain ⟨rfl, rfl, rfl, rfl, rfl, rfl, rfl, rfl⟩ := hv hok
 have hN : mulN f m a b = ((mulR f m a b).1, (mulR f m a b).2, 0) := by unfold mulN; rw [hok]; rfl
 rw [hN]
 rw [hok] at cO
 obtain ⟨⟨hf4', hm5'⟩, hfa, hfb⟩ : (decide (f < 4) = true ∧ decide (m < 5) = true) ∧ fitsB f a = true ∧ fitsB f b = true := by unfold binOk at hok; simp only [Bool.and_eq_true] at hok; exact hok
 have hf4 := of_decide_eq_true hf4'
 have hm5 := of_decide_eq_true hm5'
 have cb1 := fun w => mul_below (clsN f a) (sigN f a) (frN f a) (xpN f a) w
 have cb2 := fun w => mul_below (clsN f b) (sigN f b) (frN f b) (xpN f b) w
 have cn1 := fun w => mul_nan (clsN f a) (sigN f a) (frN f a) (xpN f a) w
 have cn2 := fun w => mul_nan (clsN f b) (sigN f b) (frN f b) (xpN f b) w
 have ci1 := fun w => mul_inf (clsN f a) (sigN f a) (frN f a) (xpN f a) w
 have ci2 := fun w => mul_inf (clsN f b) (sigN f b) (frN f b) (xpN f b) w
 have cz1 := fun w => mul_nought (clsN f a) (sigN f a) (frN f a) (xpN f a) w
 have cz2 := fun w => mul_nought (clsN f b) (sigN f b) (frN f b) (xpN f b) w
 have cN := fun w => shapeNaN_any f w hf
 have cC := fun w g hB => mul_canon f (clsN f a) (sigN f a) (frN f a) (xpN f a) (clsN f b) (sigN f b) (frN f b) (xpN f b) w g hB cN
 have cI := fun w => shapeInf_any f (!(belowN4 (clsN f a) == belowN4 (clsN f b))) w hf
 have cZ := fun w => shapeZero_any f (!(belowN4 (clsN f a) == belowN4 (clsN f b))) w hf
 have hne : (belowN4 (clsN f a) != belowN4 (clsN f b)) = !(belowN4 (clsN f a) == belowN4 (clsN f b)) := rfl
 unfold mulR canonR
 rw [hne]
 cases h1 : nanB (clsN f a)
 case true =>
  rw [h1] at cn1
  rw [canon_flag] at cC
  exact mulMul_N1 f m a b _ _ _ _ _ _ _ _ 0 0 0 0 _ _ w hT cO cb1 cb2 cn1 _ _ cC
 rw [h1] at cn1
 cases h2 : nanB (clsN f b)
 case true =>
  rw [h2] at cn2
  rw [canon_flag] at cC
  exact mulMul_N2 f m a b _ _ _ _ _ _ _ _ 0 0 0 0 _ _ w hT cO cb1 cb2 cn1 cn2 _ _ cC
 rw [h2] at cn2
 have k1 : ∀ c, infB c = true → zerB c = false := by intro c h; rcases infB_cases c h with rfl | rfl <;> rfl
 cases i1 : infB (clsN f a) <;> cases z1 : zerB (clsN f a) <;> cases i2 : infB (clsN f b) <;> cases z2 : zerB (clsN f b) <;> rw [i1] at ci1 <;> rw [z1] at cz1 <;> rw [i2] at ci2 <;> rw [z2] at cz2
 ·(
  obtain ⟨g1, g2⟩ := xpN_bound f a hfa
  obtain ⟨g3, g4⟩ := xpN_bound f b hfb
  have q1 := sigN_113 f a hfa
  have q2 := sigN_113 f b hfb
  have t1 : sigN f a < top6 := lt_pwr top6 113 (64 * 6) _ top6.eq_1 (by decide) q1
  have t2 : sigN f b < top6 := lt_pwr top6 113 (64 * 6) _ top6.eq_1 (by decide) q2
  have t3 : sigN f a * sigN f b < top6 := by
   have : sigN f a * sigN f b < 2 ^ 113 * 2 ^ 113 := Nat.mul_lt_mul'' q1 q2
   rw [← Nat.pow_add] at this
   exact lt_pwr top6 (113 + 113) (64 * 6) _ top6.eq_1 (by decide) this
  have s1 : sigN f a ≠ 0 := by
   intro h0
   have := (sig_zero f a hfa (by intro h; rw [show nanB (clsN f a) = true from decide_eq_true h] at h1; cases h1) (by intro h; rw [show infB (clsN f a) = true by unfold infB; rcases h with h | h <;> rw [h] <;> rfl] at i1; cases i1)).1 h0
   rw [show zerB (clsN f a) = true by unfold zerB; rcases this with h | h <;> rw [h] <;> rfl] at z1; cases z1
  have s2 : sigN f b ≠ 0 := by
   intro h0
   have := (sig_zero f b hfb (by intro h; rw [show nanB (clsN f b) = true from decide_eq_true h] at h2; cases h2) (by intro h; rw [show infB (clsN f b) = true by unfold infB; rcases h with h | h <;> rw [h] <;> rfl] at i2; cases i2)).1 h0
   rw [show zerB (clsN f b) = true by unfold zerB; rcases this with h | h <;> rw [h] <;> rfl] at z2; cases z2
  have s0 : sigN f a * sigN f b ≠ 0 := Nat.mul_ne_zero s1 s2
  have cK := fun w hT => roundPack_any f m (sigN f a * sigN f b) (xpN f a + xpN f b) (!(belowN4 (clsN f a) == belowN4 (clsN f b))) false w hT hf hm t3
  have hP : packN f m (!(belowN4 (clsN f a) == belowN4 (clsN f b))) (sigN f a * sigN f b) (xpN f a + xpN f b) false = ((packB f m (!(belowN4 (clsN f a) == belowN4 (clsN f b))) (sigN f a * sigN f b) (xpN f a + xpN f b) false).1, (packB f m (!(belowN4 (clsN f a) == belowN4 (clsN f b))) (sigN f a * sigN f b) (xpN f a + xpN f b) false).2, 0) := by
   unfold packN packOk
   rw [decide_eq_true hf4, decide_eq_true hm5, decide_eq_true (show -1048576 ≤ xpN f a + xpN f b by omega), decide_eq_true (show xpN f a + xpN f b ≤ 1048576 by omega), if_neg s0]; rfl
  rw [hP] at cK
  exact mulMul_FF f m a b _ _ _ _ _ _ _ _ 0 0 0 0 _ _ w hT cO cb1 cb2 cn1 cn2 ci1 ci2 cz1 cz2 g1 g2 g3 g4 _ _ _ _ _ (fun w => wideMul_any _ _ w t1 t2) cK)
 ·exact mulMul_FZ f m a b _ _ _ _ _ _ _ _ 0 0 0 0 _ _ w hT cO cb1 cb2 cn1 cn2 ci1 ci2 cz1 cz2 _ cZ
 ·exact mulMul_FI f m a b _ _ _ _ _ _ _ _ 0 0 0 0 _ _ w hT cO cb1 cb2 cn1 cn2 ci1 ci2 cz1 cz2 _ cI
 ·exact absurd (k1 _ i2) (by rw [z2]; decide)
 ·exact mulMul_ZF f m a b _ _ _ _ _ _ _ _ 0 0 0 0 _ _ w hT cO cb1 cb2 cn1 cn2 ci1 ci2 cz1 cz2 _ cZ
 ·exact mulMul_ZZ f m a b _ _ _ _ _ _ _ _ 0 0 0 0 _ _ w hT cO cb1 cb2 cn1 cn2 ci1 ci2 cz1 cz2 _ cZ
 ·exact mulMul_ZI f m a b _ _ _ _ _ _ _ _ 0 0 0 0 _ _ w hT cO cb1 cb2 cn1 cn2 ci1 ci2 cz1 cz2 _ cN
 ·exact absurd (k1 _ i2) (by rw [z2]; decide)
 ·exact mulMul_IF f m a b _ _ _ _ _ _ _ _ 0 0 0 0 _ _ w hT cO cb1 cb2 cn1 cn2 ci1 ci2 cz1 cz2 _ cI
 ·exact mulMul_IZ f m a b _ _ _ _ _ _ _ _ 0 0 0 0 _ _ w hT cO cb1 cb2 cn1 cn2 ci1 ci2 cz1 cz2 _ cN
 ·exact mulMul_II f m a b _ _ _ _ _ _ _ _ 0 0 0 0 _ _ w hT cO cb1 cb2 cn1 cn2 ci1 ci2 cz1 cz2 _ cI
 ·exact absurd (k1 _ i2) (by rw [z2]; decide)
 ·exact absurd (k1 _ i1) (by rw [z1]; decide)
 ·exact absurd (k1 _ i1) (by rw [z1]; decide)
 ·exact absurd (k1 _ i1) (by rw [z1]; decide)
 ·exact absurd (k1 _ i1) (by rw [z1]; decide)
end Go.Proofs.YtgmhmpflmgfcdaaGreatDoor
