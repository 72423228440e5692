/- The walk of CsrActs. -/
import Derived.Test.YthfoffiebifpcaaRef3
import Derived.Test.YthfoffiebifpcaaLives
namespace Go.Proofs.Ythfoffiebifpcaa
open Go.RowKit

set_option maxHeartbeats 1600000 in
set_option maxRecDepth 100000 in
theorem acts_walk (a0 a1 a2 a3 : Int) (a4 : Bool) (a5 a6 : Int) (w : World) (h0 : 0 ≤ a0) (h1 : a0 < 256) (hn0 : -9223372036854775808 ≤ a1) (hn1 : a1 < 9223372036854775808) (hc0 : 0 ≤ a2) (hc1 : a2 < 256) (hx0 : 0 ≤ a3) (hx1 : a3 < 18446744073709551616) :
    Calls Try.prog 5 #[.agg #[.int .u8 a0, .int .i64 a1, .int .u8 a2, .int .u64 a3, .bool a4, .int .u8 a5, .int .u8 a6]] w fun e w' => e = .returned (.bool true) ∧ Below w.heap.size w w' := by
  go_enter Try.func5, Try.ntmps5
  go_wp2_with fail
  refine (read_any _ _ _ hc0 hc1).mono ?_
  rintro e w' ⟨rfl, rfl⟩
  go_wp2_with fail
  refine (rread_any _ _ _ hc0 hc1).mono ?_
  rintro e w' ⟨rfl, rfl⟩
  go_wp2_with fail
  refine (write_any _ _ _ _ hc0 hc1 hx0 hx1).mono ?_
  rintro e w' ⟨rfl, rfl⟩
  go_wp2_with fail
  refine (rwrite_any _ _ _ _ hc0 hc1 hx0 hx1).mono ?_
  rintro e w' ⟨rfl, rfl⟩
  go_wp2_with fail
  refine (act_any _ _ _ _ _ _ h0 h1 hc0 hc1 hx0 hx1).mono ?_
  rintro e w' ⟨rfl, rfl⟩
  go_wp2_with fail
  refine (ract_any _ _ _ _ _ _ h0 h1 hc0 hc1 hx0 hx1).mono ?_
  rintro e w' ⟨rfl, rfl⟩
  go_wp2_with fail
  refine (lives_true _).mono ?_
  rintro e w' ⟨rfl, hb⟩
  go_wp2
  go_ret
  exact ⟨rfl, ((Below.refl _ _).alloc (Nat.le_refl _) _).trans (hb.mono (by simp))⟩
end Go.Proofs.Ythfoffiebifpcaa
