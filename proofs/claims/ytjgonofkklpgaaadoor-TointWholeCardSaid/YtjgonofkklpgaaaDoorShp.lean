/- The contracts of the shape package. -/
import Derived.Test.YtjgonofkklpgaaaDoorWmask
import Derived.BigQuiet
import Derived.Deep.QuietTactic
namespace Go.Proofs.YtjgonofkklpgaaaDoor
open Go.RowKit

theorem belowN {B : Nat} {a w : World} (h : Below B a w) (n : Nat) : Below B a (w.drewN n) := h.trans ⟨rfl, rfl, rfl, Nat.le_refl _, fun _ _ => rfl⟩

set_option maxHeartbeats 1600000 in
set_option maxRecDepth 100000 in
theorem shapeNumbers_0 (w : World) :
    Calls Tryd.prog 72 #[.int .u8 0] w fun e w' => e = .returned (.tuple #[.int .i64 (wF 0 : Nat), .int .i64 (pF 0 : Nat), .int .i64 (eF 0 : Nat), .string ⟨nameF 0⟩]) ∧ Below w.heap.size w w' := by
  go_enter Tryd.func72, Tryd.ntmps72
  go_wp2_with fail
  go_quiet (fail)
  go_wp2
  exact bodyPost_ret (by simp [results, Tryd.results72, go_sem] <;> exact ⟨rfl, rfl, rfl, rfl⟩) rfl ⟨rfl, belowN ((Below.refl _ _).alloc (Nat.le_refl _) _) _⟩

set_option maxHeartbeats 1600000 in
set_option maxRecDepth 100000 in
theorem shapeNumbers_1 (w : World) :
    Calls Tryd.prog 72 #[.int .u8 1] w fun e w' => e = .returned (.tuple #[.int .i64 (wF 1 : Nat), .int .i64 (pF 1 : Nat), .int .i64 (eF 1 : Nat), .string ⟨nameF 1⟩]) ∧ Below w.heap.size w w' := by
  go_enter Tryd.func72, Tryd.ntmps72
  go_wp2_with fail
  go_quiet (fail)
  go_wp2
  exact bodyPost_ret (by simp [results, Tryd.results72, go_sem] <;> exact ⟨rfl, rfl, rfl, rfl⟩) rfl ⟨rfl, belowN ((Below.refl _ _).alloc (Nat.le_refl _) _) _⟩

set_option maxHeartbeats 1600000 in
set_option maxRecDepth 100000 in
theorem shapeNumbers_2 (w : World) :
    Calls Tryd.prog 72 #[.int .u8 2] w fun e w' => e = .returned (.tuple #[.int .i64 (wF 2 : Nat), .int .i64 (pF 2 : Nat), .int .i64 (eF 2 : Nat), .string ⟨nameF 2⟩]) ∧ Below w.heap.size w w' := by
  go_enter Tryd.func72, Tryd.ntmps72
  go_wp2_with fail
  go_quiet (fail)
  go_wp2
  exact bodyPost_ret (by simp [results, Tryd.results72, go_sem] <;> exact ⟨rfl, rfl, rfl, rfl⟩) rfl ⟨rfl, belowN ((Below.refl _ _).alloc (Nat.le_refl _) _) _⟩

set_option maxHeartbeats 1600000 in
set_option maxRecDepth 100000 in
theorem shapeNumbers_3 (w : World) :
    Calls Tryd.prog 72 #[.int .u8 3] w fun e w' => e = .returned (.tuple #[.int .i64 (wF 3 : Nat), .int .i64 (pF 3 : Nat), .int .i64 (eF 3 : Nat), .string ⟨nameF 3⟩]) ∧ Below w.heap.size w w' := by
  go_enter Tryd.func72, Tryd.ntmps72
  go_wp2_with fail
  go_quiet (fail)
  go_wp2
  exact bodyPost_ret (by simp [results, Tryd.results72, go_sem] <;> exact ⟨rfl, rfl, rfl, rfl⟩) rfl ⟨rfl, belowN ((Below.refl _ _).alloc (Nat.le_refl _) _) _⟩

set_option maxHeartbeats 1600000 in
set_option maxRecDepth 100000 in
theorem shapeNumbers_4 (f : Nat) (w : World) (h : 4 ≤ f) (hf : f < 256) :
    Calls Tryd.prog 72 #[.int .u8 f] w fun e w' => e = .returned (.tuple #[.int .i64 0, .int .i64 0, .int .i64 0, .string ⟨#[]⟩]) ∧ Below w.heap.size w w' := by
  have h4 : (4 : Int) ≤ (f : Int) := by omega
  have h6 : (f : Int) < 256 := by omega
  go_enter Tryd.func72, Tryd.ntmps72
  go_wp2
  exact bodyPost_ret (by simp [results, Tryd.results72, go_sem]) rfl ⟨rfl, (Below.refl _ _).alloc (Nat.le_refl _) _⟩

theorem shapeNumbers_any (f : Nat) (w : World) (hf : f < 256) :
    Calls Tryd.prog 72 #[.int .u8 f] w fun e w' => e = .returned (.tuple #[.int .i64 (wF f : Nat), .int .i64 (pF f : Nat), .int .i64 (eF f : Nat), .string ⟨nameF f⟩]) ∧ Below w.heap.size w w' := by
  rcases forms f with rfl | rfl | rfl | rfl | h
  · exact shapeNumbers_0 w
  · exact shapeNumbers_1 w
  · exact shapeNumbers_2 w
  · exact shapeNumbers_3 w
  · obtain ⟨e1, e2, e3, e4⟩ := wF_big f h
    rw [e1, e2, e3, e4]
    exact shapeNumbers_4 f w h hf

set_option maxHeartbeats 1600000 in
set_option maxRecDepth 100000 in
theorem shapeWidth_any (f : Nat) (w : World) (hf : f < 256) :
    Calls Tryd.prog 27 #[.int .u8 f] w fun e w' => e = .returned (.int .i64 (wF f : Nat)) ∧ Below w.heap.size w w' := by
  go_enter Tryd.func27, Tryd.ntmps27
  go_wp2_with fail
  refine (shapeNumbers_any f _ hf).mono ?_
  rintro e w' ⟨rfl, hb⟩
  go_wp2
  go_ret
  exact ⟨rfl, hb⟩

set_option maxHeartbeats 1600000 in
set_option maxRecDepth 100000 in
theorem shapePrecision_any (f : Nat) (w : World) (hf : f < 256) :
    Calls Tryd.prog 75 #[.int .u8 f] w fun e w' => e = .returned (.int .i64 (pF f : Nat)) ∧ Below w.heap.size w w' := by
  go_enter Tryd.func75, Tryd.ntmps75
  go_wp2_with fail
  refine (shapeNumbers_any f _ hf).mono ?_
  rintro e w' ⟨rfl, hb⟩
  go_wp2
  go_ret
  exact ⟨rfl, hb⟩

set_option maxHeartbeats 1600000 in
set_option maxRecDepth 100000 in
theorem shapeEmax_any (f : Nat) (w : World) (hf : f < 256) :
    Calls Tryd.prog 74 #[.int .u8 f] w fun e w' => e = .returned (.int .i64 (eF f : Nat)) ∧ Below w.heap.size w w' := by
  go_enter Tryd.func74, Tryd.ntmps74
  go_wp2_with fail
  refine (shapeNumbers_any f _ hf).mono ?_
  rintro e w' ⟨rfl, hb⟩
  go_wp2
  go_ret
  exact ⟨rfl, hb⟩

set_option maxHeartbeats 1600000 in
set_option maxRecDepth 100000 in
theorem shapeCheck_any (f : Nat) (w : World) (hf : f < 256) :
    Calls Tryd.prog 46 #[.int .u8 f] w fun e w' => e = .returned (.int .i64 (cond (decide (f < 4)) 0 2)) ∧ w = w' := by
  by_cases h : f < 4
  · have h4 : ¬ (3 : Int) < (f : Int) := by omega
    rw [decide_eq_true h]
    go_enter Tryd.func46, Tryd.ntmps46
    go_wp2
    go_ret
    exact ⟨rfl, rfl⟩
  · have h4 : (3 : Int) < (f : Int) := by omega
    rw [decide_eq_false h]
    go_enter Tryd.func46, Tryd.ntmps46
    go_wp2
    go_ret
    exact ⟨rfl, rfl⟩
set_option maxHeartbeats 1600000 in
set_option maxRecDepth 100000 in
theorem shapeCheckMode_any (f : Nat) (w : World) (hf : f < 256) :
    Calls Tryd.prog 15 #[.int .u8 f] w fun e w' => e = .returned (.int .i64 (cond (decide (f < 5)) 0 2)) ∧ w = w' := by
  by_cases h : f < 5
  · have h4 : ¬ (4 : Int) < (f : Int) := by omega
    rw [decide_eq_true h]
    go_enter Tryd.func15, Tryd.ntmps15
    go_wp2
    go_ret
    exact ⟨rfl, rfl⟩
  · have h4 : (4 : Int) < (f : Int) := by omega
    rw [decide_eq_false h]
    go_enter Tryd.func15, Tryd.ntmps15
    go_wp2
    go_ret
    exact ⟨rfl, rfl⟩

set_option maxHeartbeats 1600000 in
set_option maxRecDepth 100000 in
theorem shapeEmin_any (f : Nat) (w : World) (hf : f < 256) :
    Calls Tryd.prog 119 #[.int .u8 f] w fun e w' => e = .returned (.int .i64 (eminI f)) ∧ Below w.heap.size w w' := by
  unfold eminI
  have he := eF_le f
  have wr : IntKind.i64.wrap (1 - (eF f : Nat)) = 1 - ((eF f : Nat) : Int) := IntWalk.i64_in _ (by omega)
  by_cases h : f < 4
  · rw [decide_eq_true h]
    go_enter Tryd.func119, Tryd.ntmps119
    go_wp2_with fail
    refine (shapeCheck_any f _ hf).mono ?_
    rw [decide_eq_true h]
    rintro e w' ⟨rfl, rfl⟩
    go_wp2_with fail
    refine (shapeEmax_any f _ hf).mono ?_
    rintro e w' ⟨rfl, hb⟩
    go_wp2
    go_ret
    exact ⟨rfl, hb⟩
  · rw [decide_eq_false h]
    go_enter Tryd.func119, Tryd.ntmps119
    go_wp2_with fail
    refine (shapeCheck_any f _ hf).mono ?_
    rw [decide_eq_false h]
    rintro e w' ⟨rfl, rfl⟩
    go_wp2
    go_ret
    exact ⟨rfl, Below.refl _ _⟩
end Go.Proofs.YtjgonofkklpgaaaDoor
