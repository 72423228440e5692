/- The contracts of toint.told, Least, Greatest. -/
import Derived.Test.YtjgonofkklpgaaaDoorRup
namespace Go.Proofs.YtjgonofkklpgaaaDoor
open Go.RowKit

theorem sext_wrap (x : Nat) : IntKind.u64.wrap (wrap64 (wrap32 ((x : Int) % 4294967296))) = ((sext32 x : Nat) : Int) := by
  simp only [wrap64, wrap32, IntKind.wrap_u64]
  unfold sext32
  by_cases hh : x % 4294967296 < 2147483648
  · rw [decide_eq_true hh]; simp only [cond]; omega
  · rw [decide_eq_false hh]; simp only [cond]; omega
theorem sext_neg (n : Nat) (h : n < 18446744073709551616) : IntKind.u64.wrap (wrap64 (wrap32 (IntKind.u64.wrap (-(n : Int)) % 4294967296))) = ((sext32 (neg64 true n) : Nat) : Int) := by
  rw [wrap_neg64 n h, sext_wrap]
theorem toldN_low (k n : Nat) (neg : Bool) (hk : k < 2) : toldN k neg n = sext32 (neg64 neg n) := by unfold toldN; rw [decide_eq_true hk]; rfl
theorem toldN_high (k n : Nat) (neg : Bool) (hk : ¬ k < 2) : toldN k neg n = neg64 neg n := by unfold toldN; rw [decide_eq_false hk]; rfl

set_option maxHeartbeats 1600000 in
set_option maxRecDepth 100000 in
theorem tointTold_any (k n : Nat) (neg : Bool) (w : World) (hk : k < 4) (hn : n < 18446744073709551616) :
    Calls Tryd.prog 53 #[.int .u8 k, .bool neg, .int .u64 n] w fun e w' => e = .returned (.int .u64 (toldN k neg n : Nat)) ∧ w = w' := by
  have HN := Lib.hid hn
  clear hn
  have : k = 0 ∨ k = 1 ∨ k = 2 ∨ k = 3 := by omega
  rcases this with rfl | rfl | rfl | rfl <;> cases neg
  · rw [toldN_low _ _ _ (by decide)]
    go_enter Tryd.func53, Tryd.ntmps53
    go_wp2
    go_ret
    exact ⟨ret_int (sext_wrap n), rfl⟩
  · rw [toldN_low _ _ _ (by decide)]
    go_enter Tryd.func53, Tryd.ntmps53
    go_wp2
    go_ret
    exact ⟨ret_int (sext_neg n HN.out), rfl⟩
  · rw [toldN_low _ _ _ (by decide)]
    go_enter Tryd.func53, Tryd.ntmps53
    go_wp2
    go_ret
    exact ⟨ret_int (sext_wrap n), rfl⟩
  · rw [toldN_low _ _ _ (by decide)]
    go_enter Tryd.func53, Tryd.ntmps53
    go_wp2
    go_ret
    exact ⟨ret_int (sext_neg n HN.out), rfl⟩
  · rw [toldN_high _ _ _ (by decide)]
    go_enter Tryd.func53, Tryd.ntmps53
    go_wp2
    go_ret
    exact ⟨rfl, rfl⟩
  · rw [toldN_high _ _ _ (by decide)]
    go_enter Tryd.func53, Tryd.ntmps53
    go_wp2
    go_ret
    exact ⟨ret_int (wrap_neg64 n HN.out), rfl⟩
  · rw [toldN_high _ _ _ (by decide)]
    go_enter Tryd.func53, Tryd.ntmps53
    go_wp2
    go_ret
    exact ⟨rfl, rfl⟩
  · rw [toldN_high _ _ _ (by decide)]
    go_enter Tryd.func53, Tryd.ntmps53
    go_wp2
    go_ret
    exact ⟨ret_int (wrap_neg64 n HN.out), rfl⟩
end Go.Proofs.YtjgonofkklpgaaaDoor
