/- Part 47 of the proof. -/
import Derived.Test.YtgmhmpflmgfcdaaGreatDoorHq5
import Derived.Test.YtgmhmpflmgfcdaaGreatDoorHq42
import Derived.Test.YtgmhmpflmgfcdaaGreatDoorHq43
import Derived.Test.YtgmhmpflmgfcdaaGreatDoorHq44
import Derived.Test.YtgmhmpflmgfcdaaGreatDoorHq46
set_option linter.unusedSimpArgs false
set_option linter.unusedVariables false
set_option linter.unnecessarySimpa false
set_option maxRecDepth 100000
set_option maxHeartbeats 3200000
namespace Go.Proofs.YtgmhmpflmgfcdaaGreatDoor
open Go.RowKit
theorem fmaOpen_any (f m a b c : Nat) (hf : f < 256) (hm : m < 256) (ha : a < 2 ^ (64 * 2)) (hb : b < 2 ^ (64 * 2)) (hc : c < 2 ^ (64 * 2)) :
  ∃ c1 s1 f1 x1 c2 s2 f2 x2 c3 s3 f3 x3, (triOk f m a b c = true → (c1 = clsN f a ∧ s1 = sigN f a ∧ x1 = xpN f a ∧ f1 = frN f a) ∧ (c2 = clsN f b ∧ s2 = sigN f b ∧ x2 = xpN f b ∧ f2 = frN f b) ∧ (c3 = clsN f c ∧ s3 = sigN f c ∧ x3 = xpN f c ∧ f3 = frN f c)) ∧
  ∀ (w : World) (g : Nat), Tab w → Blk 27 w g (cat3 (bc a) (bc b) (bc c)) → CR_ 110 #[.int .u8 f, .int .u8 m, .slice (some ⟨g, 0, none⟩) 3 3] w (.tuple #[.agg (tri c1 s1 x1 f1 c2 s2 x2 f2 c3 s3 x3 f3), .bool (triOk f m a b c)]) := by
 have cM := fun w => shapeCheckMode_any m w hm
 have cF := fun w => shapeCheck_any f w hf
 by_cases hm5 : m < 5
 case neg =>
  have e : triOk f m a b c = false := by unfold triOk; rw [decide_eq_false hm5]; simp
  rw [decide_eq_false hm5] at cM
  rw [e]
  exact ⟨0, 0, 0, 0, 0, 0, 0, 0, 0, 0, 0, 0, (fun h => by cases h), fun w g _ hB => fma_open3_mode f m a b c w g hB cM⟩
 rw [decide_eq_true hm5] at cM
 by_cases hf4 : f < 4
 case neg =>
  have e : triOk f m a b c = false := by unfold triOk; rw [decide_eq_false hf4]; simp
  rw [decide_eq_false hf4] at cF
  rw [e]
  exact ⟨0, 0, 0, 0, 0, 0, 0, 0, 0, 0, 0, 0, (fun h => by cases h), fun w g _ hB => fma_open3_form f m a b c w g hB cM cF⟩
 rw [decide_eq_true hf4] at cF
 cases ha' : fitsB f a
 ·have e : triOk f m a b c = false := by unfold triOk; rw [ha']; simp
  rw [e]
  exact ⟨0, 0, 0, 0, 0, 0, 0, 0, 0, 0, 0, 0, (fun h => by cases h), fun w g hT hB => fma_open3_no0 f m a b c w hT g hB cM cF (fun w _ => kindUnpack_not f a w ha ha')⟩
 cases hb' : fitsB f b
 ·have e : triOk f m a b c = false := by unfold triOk; rw [hb']; simp
  rw [e]
  exact ⟨_, _, _, _, 0, 0, 0, 0, 0, 0, 0, 0, (fun h => by cases h), fun w g hT hB => fma_open3_no1 f m a b c w hT g hB cM cF (fun w hT => kindUnpack_yes f a w ha' hT) (fun w _ => kindUnpack_not f b w hb hb')⟩
 cases hc' : fitsB f c
 ·have e : triOk f m a b c = false := by unfold triOk; rw [hc']; simp
  rw [e]
  exact ⟨_, _, _, _, _, _, _, _, 0, 0, 0, 0, (fun h => by cases h), fun w g hT hB => fma_open3_no2 f m a b c w hT g hB cM cF (fun w hT => kindUnpack_yes f a w ha' hT) (fun w hT => kindUnpack_yes f b w hb' hT) (fun w _ => kindUnpack_not f c w hc hc')⟩
 have e : triOk f m a b c = true := by unfold triOk; rw [ha', hb', hc', decide_eq_true hm5, decide_eq_true hf4]; rfl
 rw [e]
 exact ⟨_, _, _, _, _, _, _, _, _, _, _, _, fun _ => ⟨⟨rfl, rfl, rfl, rfl⟩, ⟨rfl, rfl, rfl, rfl⟩, ⟨rfl, rfl, rfl, rfl⟩⟩, fun w g hT hB => fma_open3_ok f m a b c w hT g hB cM cF (fun w hT => kindUnpack_yes f a w ha' hT) (fun w hT => kindUnpack_yes f b w hb' hT) (fun w hT => kindUnpack_yes f c w hc' hT)⟩
def tellV (r : Nat × Nat) : Value := .tuple #[BV r.1, .int .u8 (r.2 : Nat), .int .i64 0]
theorem ite_beq {α : Type} (a b : Bool) (x y : α) : (if a = b then x else y) = if (a == b) = true then x else y := by cases a <;> cases b <;> rfl
theorem kd_flags (c : Nat) : (nanB c = true ∧ infB c = false ∧ zerB c = false) ∨ (nanB c = false ∧ infB c = true ∧ zerB c = false) ∨ (nanB c = false ∧ infB c = false ∧ zerB c = true) ∨ (nanB c = false ∧ infB c = false ∧ zerB c = false) := by
 unfold nanB infB zerB
 by_cases h8 : 8 ≤ c
 ·left; simp; omega
 ·by_cases h0 : c = 0 ∨ c = 7
  ·right; left; rcases h0 with rfl | rfl <;> decide
  ·by_cases h3 : c = 3 ∨ c = 4
   ·right; right; left; rcases h3 with rfl | rfl <;> decide
   ·right; right; right; simp; omega
theorem tell_ite (c : Prop) [Decidable c] (a b : Nat × Nat) : tellV (if c then a else b) = if c then tellV a else tellV b := by split <;> rfl
theorem fmaMulAdd_any (f m a b c : Nat) (w : World) (hf : f < 256) (hm : m < 256) (ha : a < 2 ^ (64 * 2)) (hb : b < 2 ^ (64 * 2)) (hc : c < 2 ^ (64 * 2)) (hT : Tab w) :
  CR_ 33 #[.int .u8 f, .int .u8 m, BV a, BV b, BV c] w (.tuple #[BV (fmaN f m a b c).1, .int .u8 ((fmaN f m a b c).2.1 : Nat), .int .i64 (fmaN f m a b c).2.2]) := by
 obtain ⟨c1, s1, f1, x1, c2, s2, f2, x2, c3, s3, f3, x3, hv, cO⟩ := fmaOpen_any f m a b c hf hm ha hb hc
 cases hok : triOk f m a b c
 ·have hN : fmaN f m a b c = (0, 0, 2) := by unfold fmaN; rw [hok]; rfl
  rw [hok] at cO
  rw [hN]
  exact fmaMulAdd_no f m a b c _ _ _ _ _ _ _ _ _ _ _ _ w hT cO
 obtain ⟨⟨rfl, rfl, rfl, rfl⟩, ⟨rfl, rfl, rfl, rfl⟩, ⟨rfl, rfl, rfl, rfl⟩⟩ := hv hok
 have hN : fmaN f m a b c = ((fmaR f m a b c).1, (fmaR f m a b c).2, 0) := by unfold fmaN; rw [hok]; rfl
 rw [hN]
 rw [hok] at cO
 obtain ⟨⟨hf4', hm5'⟩, ⟨hfa, hfb⟩, hfc⟩ : (decide (f < 4) = true ∧ decide (m < 5) = true) ∧ (fitsB f a = true ∧ fitsB f b = true) ∧ fitsB f c = true := by unfold triOk at hok; simp only [Bool.and_eq_true] at hok; exact hok
 have hf4 := of_decide_eq_true hf4'
 have hm5 := of_decide_eq_true hm5'
 have cN := fun w => shapeNaN_any f w hf
 have cC := fun w g hB => fma_canon f (clsN f a) (sigN f a) (frN f a) (xpN f a) (clsN f b) (sigN f b) (frN f b) (xpN f b) (clsN f c) (sigN f c) (frN f c) (xpN f c) w g hB cN
 rw [canon_flag] at cC
 obtain ⟨g1, g2⟩ := xpN_bound f a hfa
 obtain ⟨g3, g4⟩ := xpN_bound f b hfb
 obtain ⟨g5, g6⟩ := xpN_bound f c hfc
 have qa := sigN_113 f a hfa
 have qb := sigN_113 f b hfb
 have qc := sigN_113 f c hfc
 have ta := lt_113_6 _ _ (by decide) qa
 have tb := lt_113_6 _ _ (by decide) qb
 have qab : sigN f a * sigN f b < 2 ^ 226 := by
  have : sigN f a * sigN f b < 2 ^ 113 * 2 ^ 113 := Nat.mul_lt_mul'' qa qb
  rw [← Nat.pow_add] at this; exact this
 have tab := lt_113_6 _ 226 (by decide) qab
 have em : ((m : Int) == 2) = decide (m = 2) := cast_beq m 2
 have cZ := fun w => shapeZero_any f (decide (m = 2)) w hf
 rw [← em] at cZ
 have main : CR_ 33 #[.int .u8 f, .int .u8 m, BV a, BV b, BV c] w (fmaOut (nanB (clsN f a)) (nanB (clsN f b)) (nanB (clsN f c)) (infB (clsN f a)) (infB (clsN f b)) (infB (clsN f c)) (zerB (clsN f a)) (zerB (clsN f b)) (zerB (clsN f c)) (belowN4 (clsN f c) == !(belowN4 (clsN f a) == belowN4 (clsN f b)))
   (.tuple #[BV (nanN f), .int .u8 16, .int .i64 0]) (.tuple #[BV (nanN f), .int .u8 ((cond (decide (clsN f a = 8) || decide (clsN f b = 8) || decide (clsN f c = 8)) 16 0 : Nat) : Int), .int .i64 0]) (.tuple #[BV (infN f (!(belowN4 (clsN f a) == belowN4 (clsN f b)))), .int .u8 0, .int .i64 0]) (.tuple #[BV c, .int .u8 0, .int .i64 0]) (.tuple #[BV (zeroN f ((m : Int) == 2)), .int .u8 0, .int .i64 0])
   (.tuple #[BV (packB f m (!(belowN4 (clsN f a) == belowN4 (clsN f b))) (sigN f a * sigN f b) (xpN f a + xpN f b) false).1, .int .u8 ((packB f m (!(belowN4 (clsN f a) == belowN4 (clsN f b))) (sigN f a * sigN f b) (xpN f a + xpN f b) false).2 : Nat), .int .i64 0])
   (.tuple #[BV (sumX f m (!(belowN4 (clsN f a) == belowN4 (clsN f b))) (sigN f a * sigN f b) (xpN f a + xpN f b) (belowN4 (clsN f c)) (sigN f c) (xpN f c)).1, .int .u8 ((sumX f m (!(belowN4 (clsN f a) == belowN4 (clsN f b))) (sigN f a * sigN f b) (xpN f a + xpN f b) (belowN4 (clsN f c)) (sigN f c) (xpN f c)).2 : Nat), .int .i64 0])) := by
  have cn1 := fun w => fma_nan (clsN f a) (sigN f a) (frN f a) (xpN f a) w
  have ci1 := fun w => fma_inf (clsN f a) (sigN f a) (frN f a) (xpN f a) w
  have cz1 := fun w => fma_nought (clsN f a) (sigN f a) (frN f a) (xpN f a) w
  have hkx := kd_flags (clsN f a)
  have cK : nanB (clsN f a) = false → nanB (clsN f b) = false → infB (clsN f a) = false → infB (clsN f b) = false → zerB (clsN f a) = false → zerB (clsN f b) = false → ∀ w, Tab w → _ := fun hn1 hn2 hi1 hi2 hz1 hz2 w hT => by
   have hs := Nat.mul_ne_zero (sig_ne f a hfa hn1 hi1 hz1) (sig_ne f b hfb hn2 hi2 hz2)
   have := roundPack_any f m (sigN f a * sigN f b) (xpN f a + xpN f b) (!(belowN4 (clsN f a) == belowN4 (clsN f b))) false w hT hf hm tab
   rw [pack_ok f m _ _ _ hf4 hm5 (by omega) (by omega) hs] at this
   exact this
  have cS : nanB (clsN f a) = false → nanB (clsN f b) = false → nanB (clsN f c) = false → infB (clsN f a) = false → infB (clsN f b) = false → infB (clsN f c) = false → zerB (clsN f a) = false → zerB (clsN f b) = false → zerB (clsN f c) = false → ∀ w, Tab w → _ := fun hn1 hn2 hn3 hi1 hi2 hi3 hz1 hz2 hz3 w hT => by
   have hs := Nat.mul_ne_zero (sig_ne f a hfa hn1 hi1 hz1) (sig_ne f b hfb hn2 hi2 hz2)
   exact fmaSum_any f m (!(belowN4 (clsN f a) == belowN4 (clsN f b))) (belowN4 (clsN f c)) (sigN f a * sigN f b) (sigN f c) (xpN f a + xpN f b) (xpN f c) w hT hf4 hm5 hs (sig_ne f c hfc hn3 hi3 hz3) qab (lt_up _ 113 226 qc (by decide)) (by omega) (by omega) (by omega) (by omega)
  have cII := fun w => shapeInf_any f (!(belowN4 (clsN f a) == belowN4 (clsN f b))) w hf
  have cZZ : ∀ w, CR_ 78 #[.int .u8 f, .bool ((m : Int) == 2)] w (BV (zeroN f ((m : Int) == 2))) := by rw [em]; rw [em] at cZ; exact cZ
  have cM := fun w => wideMul_any (sigN f a) (sigN f b) w ta tb
  rcases hkx with ⟨e1, e2, e3⟩ | ⟨e1, e2, e3⟩ | ⟨e1, e2, e3⟩ | ⟨e1, e2, e3⟩ <;> rw [e1] at cn1 <;> rw [e2] at ci1 <;> rw [e3] at cz1 <;> rw [e1, e2, e3]
  ·exact fmaMulAdd_N f m a b c _ _ _ _ _ _ _ _ _ _ _ _ w hT (nanB (clsN f b)) (nanB (clsN f c)) (infB (clsN f b)) (infB (clsN f c)) (zerB (clsN f b)) (zerB (clsN f c)) (belowN4 (clsN f a)) (belowN4 (clsN f b)) (belowN4 (clsN f c)) _ (kd_flags _) (kd_flags _) rfl
    (nanN f) (nanN f) _ _ (sigN f a * sigN f b) _ _ _ _ _ _ _ _ g1 g2 g3 g4 g5 g6 cO
    cn1 (fun w => fma_nan _ _ _ _ w) (fun w => fma_nan _ _ _ _ w) ci1 (fun w => fma_inf _ _ _ _ w) (fun w => fma_inf _ _ _ _ w) cz1 (fun w => fma_nought _ _ _ _ w) (fun w => fma_nought _ _ _ _ w) (fun w => fma_below _ _ _ _ w) (fun w => fma_below _ _ _ _ w) (fun w => fma_below _ _ _ _ w)
    cN cC cII cZZ cM
  ·exact fmaMulAdd_I f m a b c _ _ _ _ _ _ _ _ _ _ _ _ w hT (nanB (clsN f b)) (nanB (clsN f c)) (infB (clsN f b)) (infB (clsN f c)) (zerB (clsN f b)) (zerB (clsN f c)) (belowN4 (clsN f a)) (belowN4 (clsN f b)) (belowN4 (clsN f c)) _ (kd_flags _) (kd_flags _) rfl
    (nanN f) (nanN f) _ _ (sigN f a * sigN f b) _ _ _ _ _ _ _ _ g1 g2 g3 g4 g5 g6 cO
    cn1 (fun w => fma_nan _ _ _ _ w) (fun w => fma_nan _ _ _ _ w) ci1 (fun w => fma_inf _ _ _ _ w) (fun w => fma_inf _ _ _ _ w) cz1 (fun w => fma_nought _ _ _ _ w) (fun w => fma_nought _ _ _ _ w) (fun w => fma_below _ _ _ _ w) (fun w => fma_below _ _ _ _ w) (fun w => fma_below _ _ _ _ w)
    cN cC cII cZZ cM
  ·exact fmaMulAdd_Z f m a b c _ _ _ _ _ _ _ _ _ _ _ _ w hT (nanB (clsN f b)) (nanB (clsN f c)) (infB (clsN f b)) (infB (clsN f c)) (zerB (clsN f b)) (zerB (clsN f c)) (belowN4 (clsN f a)) (belowN4 (clsN f b)) (belowN4 (clsN f c)) _ (kd_flags _) (kd_flags _) rfl
    (nanN f) (nanN f) _ _ (sigN f a * sigN f b) _ _ _ _ _ _ _ _ g1 g2 g3 g4 g5 g6 cO
    cn1 (fun w => fma_nan _ _ _ _ w) (fun w => fma_nan _ _ _ _ w) ci1 (fun w => fma_inf _ _ _ _ w) (fun w => fma_inf _ _ _ _ w) cz1 (fun w => fma_nought _ _ _ _ w) (fun w => fma_nought _ _ _ _ w) (fun w => fma_below _ _ _ _ w) (fun w => fma_below _ _ _ _ w) (fun w => fma_below _ _ _ _ w)
    cN cC cII cZZ cM
  ·exact fmaMulAdd_F f m a b c _ _ _ _ _ _ _ _ _ _ _ _ w hT (nanB (clsN f b)) (nanB (clsN f c)) (infB (clsN f b)) (infB (clsN f c)) (zerB (clsN f b)) (zerB (clsN f c)) (belowN4 (clsN f a)) (belowN4 (clsN f b)) (belowN4 (clsN f c)) _ (kd_flags _) (kd_flags _) rfl
    (nanN f) (nanN f) _ _ (sigN f a * sigN f b) _ _ _ _ _ _ _ _ g1 g2 g3 g4 g5 g6 cO
    cn1 (fun w => fma_nan _ _ _ _ w) (fun w => fma_nan _ _ _ _ w) ci1 (fun w => fma_inf _ _ _ _ w) (fun w => fma_inf _ _ _ _ w) cz1 (fun w => fma_nought _ _ _ _ w) (fun w => fma_nought _ _ _ _ w) (fun w => fma_below _ _ _ _ w) (fun w => fma_below _ _ _ _ w) (fun w => fma_below _ _ _ _ w)
    cN cC cII cZZ cM (fun _ hn2 _ hi2 _ hz2 => cK e1 hn2 e2 hi2 e3 hz2) (fun _ hn2 hn3 _ hi2 hi3 _ hz2 hz3 => cS e1 hn2 hn3 e2 hi2 hi3 e3 hz2 hz3)
 refine main.mono ?_
 rintro e w' ⟨rfl, hb⟩
 refine ⟨?_, hb⟩
 have key : ∀ r : Nat × Nat, (.tuple #[BV r.1, .int .u8 (r.2 : Nat), .int .i64 0] : Value) = tellV r := fun _ => rfl
 rw [show (.tuple #[BV ((fmaR f m a b c).1, (fmaR f m a b c).2, (0 : Int)).1, .int .u8 (((fmaR f m a b c).1, (fmaR f m a b c).2, (0 : Int)).2.1 : Nat), .int .i64 ((fmaR f m a b c).1, (fmaR f m a b c).2, (0 : Int)).2.2] : Value) = tellV (fmaR f m a b c) from rfl]
 unfold fmaOut fmaR canon3
 rw [em, ite_beq (belowN4 (clsN f c)) (belowN4 (clsN f a) != belowN4 (clsN f b))]
 simp only [tell_ite]
 rfl
end Go.Proofs.YtgmhmpflmgfcdaaGreatDoor
