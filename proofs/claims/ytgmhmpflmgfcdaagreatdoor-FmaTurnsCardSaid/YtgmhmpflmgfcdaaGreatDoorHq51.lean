/- Part 51 of the proof. -/
import Derived.Test.YtgmhmpflmgfcdaaGreatDoorHq2
import Derived.Test.YtgmhmpflmgfcdaaGreatDoorHq5
import Derived.Test.YtgmhmpflmgfcdaaGreatDoorHq38
import Derived.Test.YtgmhmpflmgfcdaaGreatDoorHq41
import Derived.Test.YtgmhmpflmgfcdaaGreatDoorHq47
set_option linter.unusedSimpArgs false
set_option linter.unusedVariables false
set_option linter.unnecessarySimpa false
set_option maxRecDepth 100000
set_option maxHeartbeats 3200000
namespace Go.Proofs.YtgmhmpflmgfcdaaGreatDoor
open Go.RowKit Go.Proofs.YtgmhmpflmgfcdaaGreatDoorW.PrintWords Go.Proofs.YtgmhmpflmgfcdaaGreatDoor.PDivQuotients
theorem fmaTurned_na (f m a b c x z t : Nat) (fl er : Int) (w : World) (g1 g3 : Bool) (hT : Tab w) (cTa : CK_ 92 #[.int .u8 f, BV a] (.bool false))  :
  CR_ 119 #[.int .u8 f, .int .u8 m, BV a, BV b, BV c, .bool g1, .bool g3] w (.tuple #[BV 0, .int .u8 0, .int .i64 2]) := by
 have H := Own.start w
 have HT := Lib.hid hT
 clear hT
 go_enter Tryz.func119, Tryz.ntmps119
 exact walk6
theorem fmaTurned_nc (f m a b c x z t : Nat) (fl er : Int) (w : World) (g1 g3 : Bool) (hT : Tab w) (cTa : CK_ 92 #[.int .u8 f, BV a] (.bool true)) (cTc : CK_ 92 #[.int .u8 f, BV c] (.bool false))  :
  CR_ 119 #[.int .u8 f, .int .u8 m, BV a, BV b, BV c, .bool g1, .bool g3] w (.tuple #[BV 0, .int .u8 0, .int .i64 2]) := by
 have H := Own.start w
 have HT := Lib.hid hT
 clear hT
 go_enter Tryz.func119, Tryz.ntmps119
 exact walk6
theorem fmaTurned_ft (f m a b c x z t : Nat) (fl er : Int) (w : World) (hT : Tab w) (cTa : CK_ 92 #[.int .u8 f, BV a] (.bool true)) (cTc : CK_ 92 #[.int .u8 f, BV c] (.bool true)) (cFc : CK_ 108 #[.int .u8 f, BV c] (BV z)) (cM : CT_ 33 #[.int .u8 f, .int .u8 m, BV a, BV b, BV z] (.tuple #[BV t, .int .u8 fl, .int .i64 er]))  :
  CR_ 119 #[.int .u8 f, .int .u8 m, BV a, BV b, BV c, .bool false, .bool true] w (.tuple #[BV t, .int .u8 fl, .int .i64 er]) := by
 have H := Own.start w
 have HT := Lib.hid hT
 clear hT
 go_enter Tryz.func119, Tryz.ntmps119
 exact walk6
theorem fmaTurned_tf (f m a b c x z t : Nat) (fl er : Int) (w : World) (hT : Tab w) (cTa : CK_ 92 #[.int .u8 f, BV a] (.bool true)) (cTc : CK_ 92 #[.int .u8 f, BV c] (.bool true)) (cFa : CK_ 108 #[.int .u8 f, BV a] (BV x)) (cM : CT_ 33 #[.int .u8 f, .int .u8 m, BV x, BV b, BV c] (.tuple #[BV t, .int .u8 fl, .int .i64 er]))  :
  CR_ 119 #[.int .u8 f, .int .u8 m, BV a, BV b, BV c, .bool true, .bool false] w (.tuple #[BV t, .int .u8 fl, .int .i64 er]) := by
 have H := Own.start w
 have HT := Lib.hid hT
 clear hT
 go_enter Tryz.func119, Tryz.ntmps119
 exact walk6
theorem fmaTurned_tt (f m a b c x z t : Nat) (fl er : Int) (w : World) (hT : Tab w) (cTa : CK_ 92 #[.int .u8 f, BV a] (.bool true)) (cTc : CK_ 92 #[.int .u8 f, BV c] (.bool true)) (cFa : CK_ 108 #[.int .u8 f, BV a] (BV x)) (cFc : CK_ 108 #[.int .u8 f, BV c] (BV z)) (cM : CT_ 33 #[.int .u8 f, .int .u8 m, BV x, BV b, BV z] (.tuple #[BV t, .int .u8 fl, .int .i64 er]))  :
  CR_ 119 #[.int .u8 f, .int .u8 m, BV a, BV b, BV c, .bool true, .bool true] w (.tuple #[BV t, .int .u8 fl, .int .i64 er]) := by
 have H := Own.start w
 have HT := Lib.hid hT
 clear hT
 go_enter Tryz.func119, Tryz.ntmps119
 exact walk6
theorem flip_lt' (f b : Nat) : flipN f b < 2 ^ (64 * 2) := by
 cases h : fitsB f b
 ·unfold flipN; rw [h]; exact (by decide : (0 : Nat) < 2 ^ (64 * 2))
 ·exact below_fits f _ (flip_fits f b h)
theorem fmaT_nofit (f m a b c : Nat) (g1 g3 : Bool) (h : fitsB f a = false ∨ fitsB f c = false) : fmaT f m a b c g1 g3 = (0, 0, 2) := by
 have : triOk f m a b c = false := by unfold triOk; rcases h with h | h <;> rw [h] <;> simp
 unfold fmaT; rw [this]; rfl
theorem fmaT_fit (f m a b c : Nat) (g1 g3 : Bool) (fa : fitsB f a = true) (fc : fitsB f c = true) : fmaT f m a b c g1 g3 = fmaN f m (if g1 = true then flipN f a else a) b (if g3 = true then flipN f c else c) := by
 unfold fmaT
 cases ok : triOk f m a b c
 ·rw [if_neg (by decide)]
  have h1 : fitsB f (if g1 = true then flipN f a else a) = true := by cases g1; exact fa; exact flip_fits f a fa
  have h3 : fitsB f (if g3 = true then flipN f c else c) = true := by cases g3; exact fc; exact flip_fits f c fc
  have : triOk f m (if g1 = true then flipN f a else a) b (if g3 = true then flipN f c else c) = false := by
   unfold triOk at ok ⊢
   rw [h1, h3, ← ok, fa, fc]
  unfold fmaN; rw [this]; rfl
 ·rw [if_pos rfl]
theorem fmaTurned_any (f m a b c : Nat) (g1 g3 : Bool) (hg : g1 = true ∨ g3 = true) (w : World) (hf : f < 256) (hm : m < 256) (ha : a < 2 ^ (64 * 2)) (hb : b < 2 ^ (64 * 2)) (hc : c < 2 ^ (64 * 2)) (hT : Tab w) :
  CR_ 119 #[.int .u8 f, .int .u8 m, BV a, BV b, BV c, .bool g1, .bool g3] w (.tuple #[BV (fmaT f m a b c g1 g3).1, .int .u8 ((fmaT f m a b c g1 g3).2.1 : Nat), .int .i64 (fmaT f m a b c g1 g3).2.2]) := by
 have cTa := fun w => shapeFits_any f a w ha
 have cTc := fun w => shapeFits_any f c w hc
 cases fa : fitsB f a
 ·rw [fa] at cTa
  rw [fmaT_nofit f m a b c g1 g3 (Or.inl fa)]
  exact fmaTurned_na f m a b c 0 0 0 0 0 w g1 g3 hT cTa
 rw [fa] at cTa
 cases fc : fitsB f c
 ·rw [fc] at cTc
  rw [fmaT_nofit f m a b c g1 g3 (Or.inr fc)]
  exact fmaTurned_nc f m a b c 0 0 0 0 0 w g1 g3 hT cTa cTc
 rw [fc] at cTc
 rw [fmaT_fit f m a b c g1 g3 fa fc]
 have xa := flip_lt' f a
 have xc := flip_lt' f c
 cases g1 <;> cases g3
 ·simp at hg
 ·exact fmaTurned_ft f m a b c 0 _ _ _ _ w hT cTa cTc (fun w => kindFlip_any f c w hf hc) (fun w hT => fmaMulAdd_any f m a b (flipN f c) w hf hm ha hb xc hT)
 ·exact fmaTurned_tf f m a b c _ 0 _ _ _ w hT cTa cTc (fun w => kindFlip_any f a w hf ha) (fun w hT => fmaMulAdd_any f m (flipN f a) b c w hf hm xa hb hc hT)
 ·exact fmaTurned_tt f m a b c _ _ _ _ _ w hT cTa cTc (fun w => kindFlip_any f a w hf ha) (fun w => kindFlip_any f c w hf hc) (fun w hT => fmaMulAdd_any f m (flipN f a) b (flipN f c) w hf hm xa hb xc hT)
theorem fmaMulSub_w (f m a b c x : Nat) (fl e0 : Int) (w : World) (hT : Tab w) (cT : CT_ 119 #[.int .u8 f, .int .u8 m, BV a, BV b, BV c, .bool false, .bool true] (.tuple #[BV x, .int .u8 fl, .int .i64 e0])) :
  CR_ 38 #[.int .u8 f, .int .u8 m, BV a, BV b, BV c] w (.tuple #[BV x, .int .u8 fl, .int .i64 e0]) := by
 have H := Own.start w
 have HT := Lib.hid hT
 clear hT
 go_enter Tryz.func38, Tryz.ntmps38
 exact walk6
theorem fmaNegMulSub_w (f m a b c x : Nat) (fl e0 : Int) (w : World) (hT : Tab w) (cT : CT_ 119 #[.int .u8 f, .int .u8 m, BV a, BV b, BV c, .bool true, .bool false] (.tuple #[BV x, .int .u8 fl, .int .i64 e0])) :
  CR_ 40 #[.int .u8 f, .int .u8 m, BV a, BV b, BV c] w (.tuple #[BV x, .int .u8 fl, .int .i64 e0]) := by
 have H := Own.start w
 have HT := Lib.hid hT
 clear hT
 go_enter Tryz.func40, Tryz.ntmps40
 exact walk6
theorem fmaNegMulAdd_w (f m a b c x : Nat) (fl e0 : Int) (w : World) (hT : Tab w) (cT : CT_ 119 #[.int .u8 f, .int .u8 m, BV a, BV b, BV c, .bool true, .bool true] (.tuple #[BV x, .int .u8 fl, .int .i64 e0])) :
  CR_ 41 #[.int .u8 f, .int .u8 m, BV a, BV b, BV c] w (.tuple #[BV x, .int .u8 fl, .int .i64 e0]) := by
 have H := Own.start w
 have HT := Lib.hid hT
 clear hT
 go_enter Tryz.func41, Tryz.ntmps41
 exact walk6
theorem fmaTurns_alive (w : World) (hT : Tab w) (cA : CT_ 33 #[.int .u8 2, .int .u8 0, .agg #[.int .u64 0, .int .u64 16384], .agg #[.int .u64 0, .int .u64 16896], .agg #[.int .u64 0, .int .u64 48128]] (.tuple #[.agg #[.int .u64 0, .int .u64 17664], .int .u8 0, .int .i64 0])) :
  CR_ 35 #[] w (.bool true) := by
 have H := Own.start w
 have HT := Lib.hid hT
 clear hT
 go_enter Tryz.func35, Tryz.ntmps35
 exact walk6
theorem fmaTurns_alive_any (w : World) (hT : Tab w) : CR_ 35 #[] w (.bool true) := by
 refine fmaTurns_alive w hT fun w hT => ?_
 have := fmaMulAdd_any 2 0 16384 16896 48128 w (by decide) (by decide) (by decide) (by decide) (by decide) hT
 rw [show fmaN 2 0 16384 16896 48128 = (17664, 0, 0) by decide +kernel] at this
 exact this
theorem fmaTurns_w (f m a b c x1 x2 x3 : Nat) (l1 l2 l3 o1 o2 o3 : Int) (w : World) (hT : Tab w) (cA1 : CT_ 38 #[.int .u8 f, .int .u8 m, BV a, BV b, BV c] (.tuple #[BV x1, .int .u8 l1, .int .i64 o1])) (cR1 : CK_ 39 #[.int .u8 f, .int .u8 m, BV a, BV b, BV c, .bool false, .bool true] (.tuple #[BV x1, .int .u8 l1, .int .i64 o1])) (cA2 : CT_ 40 #[.int .u8 f, .int .u8 m, BV a, BV b, BV c] (.tuple #[BV x2, .int .u8 l2, .int .i64 o2])) (cR2 : CK_ 39 #[.int .u8 f, .int .u8 m, BV a, BV b, BV c, .bool true, .bool false] (.tuple #[BV x2, .int .u8 l2, .int .i64 o2])) (cA3 : CT_ 41 #[.int .u8 f, .int .u8 m, BV a, BV b, BV c] (.tuple #[BV x3, .int .u8 l3, .int .i64 o3])) (cR3 : CK_ 39 #[.int .u8 f, .int .u8 m, BV a, BV b, BV c, .bool true, .bool true] (.tuple #[BV x3, .int .u8 l3, .int .i64 o3]))  :
  CR_ 11 #[.int .u8 f, .int .u8 m, BV a, BV b, BV c] w (.bool true) := by
 have H := Own.start w
 have HT := Lib.hid hT
 clear hT
 go_enter Tryz.func11, Tryz.ntmps11
 exact walk6
theorem fmaTurns_any (f m a b c : Nat) (w : World) (hf : f < 256) (hm : m < 256) (ha : a < 2 ^ (64 * 2)) (hb : b < 2 ^ (64 * 2)) (hc : c < 2 ^ (64 * 2)) (hT : Tab w) :
  CR_ 11 #[.int .u8 f, .int .u8 m, BV a, BV b, BV c] w (.bool true) :=
 fmaTurns_w f m a b c _ _ _ _ _ _ _ _ _ w hT
  (fun w hT => fmaMulSub_w f m a b c _ _ _ w hT fun w hT => fmaTurned_any f m a b c false true (by simp) w hf hm ha hb hc hT) (fun w => r15Turned_any f m a b c false true (by simp) w ha hb hc)
  (fun w hT => fmaNegMulSub_w f m a b c _ _ _ w hT fun w hT => fmaTurned_any f m a b c true false (by simp) w hf hm ha hb hc hT) (fun w => r15Turned_any f m a b c true false (by simp) w ha hb hc)
  (fun w hT => fmaNegMulAdd_w f m a b c _ _ _ w hT fun w hT => fmaTurned_any f m a b c true true (by simp) w hf hm ha hb hc hT) (fun w => r15Turned_any f m a b c true true (by simp) w ha hb hc)
end Go.Proofs.YtgmhmpflmgfcdaaGreatDoor
