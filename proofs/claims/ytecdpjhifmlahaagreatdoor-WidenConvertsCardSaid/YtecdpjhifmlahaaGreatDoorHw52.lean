/- Part 52 of what is proved: Lqc. -/
import Derived.Test.YtecdpjhifmlahaaGreatDoorHw1
import Derived.Test.YtecdpjhifmlahaaGreatDoorHw7
import Derived.Test.YtecdpjhifmlahaaGreatDoorHw48
set_option linter.unusedSimpArgs false
set_option linter.unusedVariables false
set_option linter.unnecessarySimpa false
set_option maxRecDepth 100000
set_option maxHeartbeats 1600000
namespace Go.Proofs.YtecdpjhifmlahaaGreatDoor
open Go.RowKit Go.Proofs.YtecdpjhifmlahaaGreatDoorW.PrintWords Go.Proofs.YtecdpjhifmlahaaGreatDoor.PDivQuotients
theorem widenConverts_alive (w : World) (hT : Tab w) (cA : CT_ 20 #[.int .u8 0, .int .u8 2, .int .u8 0, .agg #[.int .u64 0, .int .u64 15360]] (.tuple #[.agg #[.int .u64 0, .int .u64 1065353216], .int .u8 0, .int .i64 0])) :
    Calls Tryz.prog 22 #[] w fun e w' => e = .returned (.bool true) ∧ Below w.heap.size w w' := by
  have H := Own.start w
  have HT := Lib.hid hT
  clear hT
  go_enter Tryz.func22, Tryz.ntmps22
  exact walk8
theorem widenConverts_alive_any (w : World) (hT : Tab w) : Calls Tryz.prog 22 #[] w fun e w' => e = .returned (.bool true) ∧ Below w.heap.size w w' := by
  refine widenConverts_alive w hT fun w hT => ?_
  have := widenConvert_any 0 2 0 15360 w (by decide) (by decide) (by decide) hT
  rw [show widenN 0 2 0 15360 = (1065353216, 0, 0) by decide +kernel] at this
  exact this
set_option maxHeartbeats 3200000 in
theorem widenConverts_w (tf fr m a x : Nat) (fl e0 : Int) (w : World) (hT : Tab w) (cA : CT_ 20 #[.int .u8 tf, .int .u8 fr, .int .u8 m, BV a] (.tuple #[BV x, .int .u8 fl, .int .i64 e0])) (cR : CK_ 21 #[.int .u8 tf, .int .u8 fr, .int .u8 m, BV a] (.tuple #[BV x, .int .u8 fl, .int .i64 e0]))  :
    Calls Tryz.prog 5 #[.int .u8 tf, .int .u8 fr, .int .u8 m, BV a] w fun e w' => e = .returned (.bool true) ∧ Below w.heap.size w w' := by
  have H := Own.start w
  have HT := Lib.hid hT
  clear hT
  go_enter Tryz.func5, Tryz.ntmps5
  exact walk8
theorem widenConverts_any (tf fr m a : Nat) (w : World) (ht : tf < 256) (hf : fr < 256) (hm : m < 256) (ha : a < 2 ^ (64 * 2)) (hT : Tab w) :
    Calls Tryz.prog 5 #[.int .u8 tf, .int .u8 fr, .int .u8 m, BV a] w fun e w' => e = .returned (.bool true) ∧ Below w.heap.size w w' :=
  widenConverts_w tf fr m a _ _ _ w hT (fun w hT => widenConvert_any tf fr m a w ht hm ha hT) (fun w => r18Convert_any tf fr m a w ha)
end Go.Proofs.YtecdpjhifmlahaaGreatDoor
