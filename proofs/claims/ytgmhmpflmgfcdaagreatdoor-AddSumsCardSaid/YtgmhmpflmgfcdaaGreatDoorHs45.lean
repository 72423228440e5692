/- Part 45 of what is proved: Lat, Lan, Lqa. -/
import Derived.Test.YtgmhmpflmgfcdaaGreatDoorHs2
import Derived.Test.YtgmhmpflmgfcdaaGreatDoorHs4
import Derived.Test.YtgmhmpflmgfcdaaGreatDoorHs7
import Derived.Test.YtgmhmpflmgfcdaaGreatDoorHs38
import Derived.Test.YtgmhmpflmgfcdaaGreatDoorHs39
import Derived.Test.YtgmhmpflmgfcdaaGreatDoorHs41
import Derived.Test.YtgmhmpflmgfcdaaGreatDoorHs44
set_option linter.unusedSimpArgs false
set_option linter.unusedVariables false
set_option linter.unnecessarySimpa false
set_option maxRecDepth 100000
set_option maxHeartbeats 3200000
namespace Go.Proofs.YtgmhmpflmgfcdaaGreatDoor
open Go.RowKit
theorem addAlive_w (w : World) (hT : Tab w) (cA : CT_ 26 #[.int .u8 2, .int .u8 0, .agg #[.int .u64 0, .int .u64 15360], .agg #[.int .u64 0, .int .u64 15360]] (.tuple #[.agg #[.int .u64 0, .int .u64 16384], .int .u8 0, .int .i64 0])) :
  CR_ 30 #[] w (.bool true) := by
 have H := Own.start w
 have HT := Lib.hid hT
 clear hT
 go_enter Tryz.func30, Tryz.ntmps30
 exact walk5
theorem addAlive_any (w : World) (hT : Tab w) : CR_ 30 #[] w (.bool true) := by
 refine addAlive_w w hT fun w hT => ?_
 have := addAdd_any 2 0 15360 15360 w (by decide) (by decide) (by decide) (by decide) hT
 rw [show addN 2 0 15360 15360 = (16384, 0, 0) by decide +kernel] at this
 exact this
theorem addSub_no (f m a b : Nat) (w : World) (hT : Tab w) (cT : CK_ 92 #[.int .u8 f, BV b] (.bool false)) :
  CR_ 28 #[.int .u8 f, .int .u8 m, BV a, BV b] w (.tuple #[BV 0, .int .u8 0, .int .i64 2]) := by
 have H := Own.start w
 have HT := Lib.hid hT
 clear hT
 go_enter Tryz.func28, Tryz.ntmps28
 exact walk5
theorem addSub_yes (f m a b : Nat) (w : World) (hT : Tab w) (c x : Nat) (fl e0 : Int) (cT : CK_ 92 #[.int .u8 f, BV b] (.bool true)) (cF : CK_ 108 #[.int .u8 f, BV b] (BV c)) (cA : CT_ 26 #[.int .u8 f, .int .u8 m, BV a, BV c] (.tuple #[BV x, .int .u8 fl, .int .i64 e0])) :
  CR_ 28 #[.int .u8 f, .int .u8 m, BV a, BV b] w (.tuple #[BV x, .int .u8 fl, .int .i64 e0]) := by
 have H := Own.start w
 have HT := Lib.hid hT
 clear hT
 go_enter Tryz.func28, Tryz.ntmps28
 exact walk5
theorem flip_lt (f b : Nat) : flipN f b < 2 ^ (64 * 2) := by
 unfold flipN
 cases h : fitsB f b
 ·exact (by decide : (0 : Nat) < 2 ^ (64 * 2))
 ·obtain ⟨hf, -⟩ := (fits_iff f b).1 h
  exact below_fits f _ (mkN_fields f hf (!negN f b) (expN f b) (b % 2 ^ (pF f - 1)) (Nat.mod_lt _ (two_pos _)) (expN_lt f b hf)).2.2.2
theorem addSub_any (f m a b : Nat) (w : World) (hf : f < 256) (hm : m < 256) (ha : a < 2 ^ (64 * 2)) (hb : b < 2 ^ (64 * 2)) (hT : Tab w) :
  CR_ 28 #[.int .u8 f, .int .u8 m, BV a, BV b] w (.tuple #[BV (subA f m a b).1, .int .u8 ((subA f m a b).2.1 : Nat), .int .i64 (subA f m a b).2.2]) := by
 have cT := fun w => shapeFits_any f b w hb
 unfold subA
 cases h : fitsB f b
 ·rw [h] at cT; exact addSub_no f m a b w hT cT
 ·rw [h] at cT
  exact addSub_yes f m a b w hT _ _ _ _ cT (fun w => kindFlip_any f b w hf hb) (fun w hT => addAdd_any f m a (flipN f b) w hf hm ha (flip_lt f b) hT)
open Go.RowKit Go.Proofs.YtgmhmpflmgfcdaaGreatDoorW.PrintWords Go.Proofs.YtgmhmpflmgfcdaaGreatDoor.PDivQuotients
theorem addSums_w (f m a b x u : Nat) (fl e0 hl h0 : Int) (w : World) (hT : Tab w) (cA : CT_ 26 #[.int .u8 f, .int .u8 m, BV a, BV b] (.tuple #[BV x, .int .u8 fl, .int .i64 e0])) (cR : CK_ 27 #[.int .u8 f, .int .u8 m, BV a, BV b] (.tuple #[BV x, .int .u8 fl, .int .i64 e0])) (cS : CT_ 28 #[.int .u8 f, .int .u8 m, BV a, BV b] (.tuple #[BV u, .int .u8 hl, .int .i64 h0])) (cU : CK_ 29 #[.int .u8 f, .int .u8 m, BV a, BV b] (.tuple #[BV u, .int .u8 hl, .int .i64 h0]))  :
  CR_ 7 #[.int .u8 f, .int .u8 m, BV a, BV b] w (.bool true) := by
 have H := Own.start w
 have HT := Lib.hid hT
 clear hT
 go_enter Tryz.func7, Tryz.ntmps7
 exact walk5
theorem addSums_any (f m a b : Nat) (w : World) (hf : f < 256) (hm : m < 256) (ha : a < 2 ^ (64 * 2)) (hb : b < 2 ^ (64 * 2)) (hT : Tab w) :
  CR_ 7 #[.int .u8 f, .int .u8 m, BV a, BV b] w (.bool true) :=
 addSums_w f m a b _ _ _ _ _ _ w hT (fun w hT => addAdd_any f m a b w hf hm ha hb hT) (fun w => r11Add_any f m a b w ha hb) (fun w hT => addSub_any f m a b w hf hm ha hb hT) (fun w => r11Sub_any f m a b w ha hb)
end Go.Proofs.YtgmhmpflmgfcdaaGreatDoor
