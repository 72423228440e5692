/- The walk of CsrModes. -/
import Derived.Test.YthfoffiebifpcaaRef
import Derived.Test.YthfoffiebifpcaaLives
import Derived.StillTailTactics
import Derived.Deep.QuietTactic
import Derived.BigQuiet
namespace Go.Proofs.Ythfoffiebifpcaa
open Go.RowKit

set_option maxHeartbeats 1600000 in
set_option maxRecDepth 100000 in
theorem modes_walk (a0 a1 a2 a3 : Int) (a4 : Bool) (a5 a6 : Int) (w : World) (hc0 : 0 ≤ a2) (hc1 : a2 < 256) (h50 : 0 ≤ a5) (h51 : a5 < 256) (h60 : 0 ≤ a6) (h61 : a6 < 256) :
    Calls Try.prog 3 #[.agg #[.int .u8 a0, .int .i64 a1, .int .u8 a2, .int .u64 a3, .bool a4, .int .u8 a5, .int .u8 a6]] w fun e w' => e = .returned (.bool true) ∧ Below w.heap.size w w' := by
  go_enter Try.func3, Try.ntmps3
  go_wp2_with fail
  refine (mode_any _ _ _ hc0 hc1 h50 h51).mono ?_
  rintro e w' ⟨rfl, rfl⟩
  go_wp2_with fail
  refine (rmode_any _ _ _ hc0 hc1 h50 h51).mono ?_
  rintro e w' ⟨rfl, rfl⟩
  go_wp2_with fail
  refine (make_any _ _ _ h50 h51 h60 h61).mono ?_
  rintro e w' ⟨rfl, rfl⟩
  go_wp2_with fail
  refine (rmake_any _ _ _ h50 h51 h60 h61).mono ?_
  rintro e w' ⟨rfl, rfl⟩
  go_wp2_with fail
  refine (accrue_any _ _ _ hc0 hc1 h60 h61).mono ?_
  rintro e w' ⟨rfl, rfl⟩
  go_wp2_with fail
  refine (raccrue_any _ _ _ hc0 hc1 h60 h61).mono ?_
  rintro e w' ⟨rfl, rfl⟩
  go_wp2_with fail
  refine (parts_any _ _ hc0 hc1).mono ?_
  rintro e w' ⟨rfl, rfl⟩
  go_wp2_with fail
  refine (lives_true _).mono ?_
  rintro e w' ⟨rfl, hb⟩
  go_wp2
  go_ret
  exact ⟨rfl, ((Below.refl _ _).alloc (Nat.le_refl _) _).trans (hb.mono (by simp))⟩
end Go.Proofs.Ythfoffiebifpcaa
