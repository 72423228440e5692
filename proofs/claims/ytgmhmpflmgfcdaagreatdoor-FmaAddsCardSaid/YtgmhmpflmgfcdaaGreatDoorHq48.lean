/- Part 48 of the proof. -/
import Derived.Test.YtgmhmpflmgfcdaaGreatDoorHq3
import Derived.Test.YtgmhmpflmgfcdaaGreatDoorHq5
import Derived.Test.YtgmhmpflmgfcdaaGreatDoorHq38
import Derived.Test.YtgmhmpflmgfcdaaGreatDoorHq47
set_option linter.unusedSimpArgs false
set_option linter.unusedVariables false
set_option linter.unnecessarySimpa false
set_option maxRecDepth 100000
set_option maxHeartbeats 3200000
namespace Go.Proofs.YtgmhmpflmgfcdaaGreatDoor
open Go.RowKit Go.Proofs.YtgmhmpflmgfcdaaGreatDoorW.PrintWords Go.Proofs.YtgmhmpflmgfcdaaGreatDoor.PDivQuotients
theorem fmaAdds_alive (w : World) (hT : Tab w) (cA : CT_ 33 #[.int .u8 2, .int .u8 0, .agg #[.int .u64 0, .int .u64 16384], .agg #[.int .u64 0, .int .u64 16896], .agg #[.int .u64 0, .int .u64 48128]] (.tuple #[.agg #[.int .u64 0, .int .u64 17664], .int .u8 0, .int .i64 0])) :
  CR_ 35 #[] w (.bool true) := by
 have H := Own.start w
 have HT := Lib.hid hT
 clear hT
 go_enter Tryz.func35, Tryz.ntmps35
 exact walk5
theorem fmaAdds_alive_any (w : World) (hT : Tab w) : CR_ 35 #[] w (.bool true) := by
 refine fmaAdds_alive w hT fun w hT => ?_
 have := fmaMulAdd_any 2 0 16384 16896 48128 w (by decide) (by decide) (by decide) (by decide) (by decide) hT
 rw [show fmaN 2 0 16384 16896 48128 = (17664, 0, 0) by decide +kernel] at this
 exact this
theorem fmaAdds_w (f m a b c x : Nat) (fl e0 : Int) (w : World) (hT : Tab w) (cA : CT_ 33 #[.int .u8 f, .int .u8 m, BV a, BV b, BV c] (.tuple #[BV x, .int .u8 fl, .int .i64 e0])) (cR : CK_ 34 #[.int .u8 f, .int .u8 m, BV a, BV b, BV c] (.tuple #[BV x, .int .u8 fl, .int .i64 e0]))  :
  CR_ 9 #[.int .u8 f, .int .u8 m, BV a, BV b, BV c] w (.bool true) := by
 have H := Own.start w
 have HT := Lib.hid hT
 clear hT
 go_enter Tryz.func9, Tryz.ntmps9
 exact walk5
theorem fmaAdds_any (f m a b c : Nat) (w : World) (hf : f < 256) (hm : m < 256) (ha : a < 2 ^ (64 * 2)) (hb : b < 2 ^ (64 * 2)) (hc : c < 2 ^ (64 * 2)) (hT : Tab w) :
  CR_ 9 #[.int .u8 f, .int .u8 m, BV a, BV b, BV c] w (.bool true) :=
 fmaAdds_w f m a b c _ _ _ w hT (fun w hT => fmaMulAdd_any f m a b c w hf hm ha hb hc hT) (fun w => r15MulAdd_any f m a b c w ha hb hc)
end Go.Proofs.YtgmhmpflmgfcdaaGreatDoor
