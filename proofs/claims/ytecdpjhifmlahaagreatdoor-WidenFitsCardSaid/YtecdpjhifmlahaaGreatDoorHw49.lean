/- Part 49 of what is proved: Lqf. -/
import Derived.Test.YtecdpjhifmlahaaGreatDoorHw2
import Derived.Test.YtecdpjhifmlahaaGreatDoorHw7
import Derived.Test.YtecdpjhifmlahaaGreatDoorHw48
set_option linter.unusedSimpArgs false
set_option linter.unusedVariables false
set_option linter.unnecessarySimpa false
set_option maxRecDepth 100000
set_option maxHeartbeats 1600000
namespace Go.Proofs.YtecdpjhifmlahaaGreatDoor
open Go.RowKit Go.Proofs.YtecdpjhifmlahaaGreatDoorW.PrintWords Go.Proofs.YtecdpjhifmlahaaGreatDoor.PDivQuotients
theorem widenFits_alive (w : World) (hT : Tab w) (cA : CT_ 20 #[.int .u8 0, .int .u8 2, .int .u8 0, .agg #[.int .u64 0, .int .u64 15360]] (.tuple #[.agg #[.int .u64 0, .int .u64 1065353216], .int .u8 0, .int .i64 0])) :
    Calls Tryz.prog 22 #[] w fun e w' => e = .returned (.bool true) ∧ Below w.heap.size w w' := by
  have H := Own.start w
  have HT := Lib.hid hT
  clear hT
  go_enter Tryz.func22, Tryz.ntmps22
  exact walk7
theorem widenFits_alive_any (w : World) (hT : Tab w) : Calls Tryz.prog 22 #[] w fun e w' => e = .returned (.bool true) ∧ Below w.heap.size w w' := by
  refine widenFits_alive w hT fun w hT => ?_
  have := widenConvert_any 0 2 0 15360 w (by decide) (by decide) (by decide) hT
  rw [show widenN 0 2 0 15360 = (1065353216, 0, 0) by decide +kernel] at this
  exact this
set_option maxHeartbeats 3200000 in
theorem widenFits_w (tf fr a : Nat) (x : Bool) (e0 : Int) (w : World) (hT : Tab w) (cA : CT_ 23 #[.int .u8 tf, .int .u8 fr, BV a] (.tuple #[.bool x, .int .i64 e0])) (cR : CK_ 24 #[.int .u8 tf, .int .u8 fr, BV a] (.tuple #[.bool x, .int .i64 e0]))  :
    Calls Tryz.prog 6 #[.int .u8 tf, .int .u8 fr, BV a] w fun e w' => e = .returned (.bool true) ∧ Below w.heap.size w w' := by
  have H := Own.start w
  have HT := Lib.hid hT
  clear hT
  go_enter Tryz.func6, Tryz.ntmps6
  exact walk7
theorem widenFits_law (tf fr a : Nat) (w : World) (ht : tf < 256) (hf : fr < 256) (ha : a < 2 ^ (64 * 2)) (hT : Tab w) :
    Calls Tryz.prog 6 #[.int .u8 tf, .int .u8 fr, BV a] w fun e w' => e = .returned (.bool true) ∧ Below w.heap.size w w' :=
  widenFits_w tf fr a _ _ w hT (fun w hT => widenFits_any tf fr a w ht hf ha hT) (fun w => r18FitsF_any tf fr a w ha)
end Go.Proofs.YtecdpjhifmlahaaGreatDoor
