/- The contract of round.Up, and of the ends of the whole numbers. -/
import Derived.Test.YtjgonofkklpgaaaDoorShp
namespace Go.Proofs.YtjgonofkklpgaaaDoor
open Go.RowKit

set_option maxHeartbeats 3200000 in
set_option maxRecDepth 100000 in
theorem roundUp_any (m : Nat) (neg odd : Bool) (half : Int) (exact : Bool) (w : World) (hm : m < 256) (hh : half = -1 ∨ half = 0 ∨ half = 1) :
    Calls Tryd.prog 59 #[.int .u8 m, .bool neg, .bool odd, .int .i64 half, .bool exact] w fun e w' => e = .returned (.bool (upB m neg odd half exact)) ∧ w = w' := by
  cases exact
  · have : m = 0 ∨ m = 1 ∨ m = 2 ∨ m = 3 ∨ m = 4 ∨ 5 ≤ m := by omega
    rcases this with rfl | rfl | rfl | rfl | rfl | h
    · rcases hh with rfl | rfl | rfl <;>
      · go_enter Tryd.func59, Tryd.ntmps59
        go_wp2
        go_ret
        exact ⟨ret_bool (by simp [upB]), rfl⟩
    · go_enter Tryd.func59, Tryd.ntmps59
      go_wp2
      go_ret
      exact ⟨ret_bool (by simp [upB]), rfl⟩
    · cases neg <;>
      · go_enter Tryd.func59, Tryd.ntmps59
        go_wp2
        go_ret
        exact ⟨ret_bool (by simp [upB]), rfl⟩
    · cases neg <;>
      · go_enter Tryd.func59, Tryd.ntmps59
        go_wp2
        go_ret
        exact ⟨ret_bool (by simp [upB]), rfl⟩
    · rcases hh with rfl | rfl | rfl <;>
      · go_enter Tryd.func59, Tryd.ntmps59
        go_wp2
        go_ret
        exact ⟨ret_bool (by simp [upB]), rfl⟩
    · rw [upB_big _ _ _ _ _ h]
      have h5 : (5 : Int) ≤ (m : Int) := by omega
      have e0 : ((m : Int) == 0) = false := by simp; omega
      have e2 : ((m : Int) == 2) = false := by simp; omega
      have e3 : ((m : Int) == 3) = false := by simp; omega
      have e4 : ((m : Int) == 4) = false := by simp; omega
      go_enter Tryd.func59, Tryd.ntmps59
      go_wp2
      go_ret
      exact ⟨rfl, rfl⟩
  · go_enter Tryd.func59, Tryd.ntmps59
    go_wp2
    go_ret
    exact ⟨ret_bool (by simp [upB]), rfl⟩

set_option maxHeartbeats 1600000 in
set_option maxRecDepth 100000 in
theorem tointEnds_0 (w : World) :
    Calls Tryd.prog 52 #[.int .u8 0] w fun e w' => e = .returned (.tuple #[.int .u64 (lowK 0 : Nat), .int .u64 (highK 0 : Nat)]) ∧ Below w.heap.size w w' := by
  go_enter Tryd.func52, Tryd.ntmps52
  go_wp2_with fail
  go_quiet (fail)
  go_wp2
  go_ret2
  exact ⟨rfl, belowN ((Below.refl _ _).alloc (Nat.le_refl _) _) _⟩
set_option maxHeartbeats 1600000 in
set_option maxRecDepth 100000 in
theorem tointEnds_1 (w : World) :
    Calls Tryd.prog 52 #[.int .u8 1] w fun e w' => e = .returned (.tuple #[.int .u64 (lowK 1 : Nat), .int .u64 (highK 1 : Nat)]) ∧ Below w.heap.size w w' := by
  go_enter Tryd.func52, Tryd.ntmps52
  go_wp2_with fail
  go_quiet (fail)
  go_wp2
  go_ret2
  exact ⟨rfl, belowN ((Below.refl _ _).alloc (Nat.le_refl _) _) _⟩
set_option maxHeartbeats 1600000 in
set_option maxRecDepth 100000 in
theorem tointEnds_2 (w : World) :
    Calls Tryd.prog 52 #[.int .u8 2] w fun e w' => e = .returned (.tuple #[.int .u64 (lowK 2 : Nat), .int .u64 (highK 2 : Nat)]) ∧ Below w.heap.size w w' := by
  go_enter Tryd.func52, Tryd.ntmps52
  go_wp2_with fail
  go_quiet (fail)
  go_wp2
  go_ret2
  exact ⟨rfl, belowN ((Below.refl _ _).alloc (Nat.le_refl _) _) _⟩
set_option maxHeartbeats 1600000 in
set_option maxRecDepth 100000 in
theorem tointEnds_3 (w : World) :
    Calls Tryd.prog 52 #[.int .u8 3] w fun e w' => e = .returned (.tuple #[.int .u64 (lowK 3 : Nat), .int .u64 (highK 3 : Nat)]) ∧ Below w.heap.size w w' := by
  go_enter Tryd.func52, Tryd.ntmps52
  go_wp2_with fail
  go_quiet (fail)
  go_wp2
  go_ret2
  exact ⟨rfl, belowN ((Below.refl _ _).alloc (Nat.le_refl _) _) _⟩
theorem tointEnds_any (k : Nat) (w : World) (hk : k < 4) :
    Calls Tryd.prog 52 #[.int .u8 k] w fun e w' => e = .returned (.tuple #[.int .u64 (lowK k : Nat), .int .u64 (highK k : Nat)]) ∧ Below w.heap.size w w' := by
  have : k = 0 ∨ k = 1 ∨ k = 2 ∨ k = 3 := by omega
  rcases this with rfl | rfl | rfl | rfl
  · exact tointEnds_0 w
  · exact tointEnds_1 w
  · exact tointEnds_2 w
  · exact tointEnds_3 w

theorem wrap_neg64 (n : Nat) (h : n < 18446744073709551616) : IntKind.u64.wrap (-(n : Int)) = ((neg64 true n : Nat) : Int) := by
  rw [IntKind.wrap_u64]; unfold neg64; simp only [cond]; omega
end Go.Proofs.YtjgonofkklpgaaaDoor
