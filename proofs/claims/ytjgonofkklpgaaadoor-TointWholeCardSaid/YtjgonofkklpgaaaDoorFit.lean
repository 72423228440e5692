/- The contract of shape.Fits. -/
import Derived.Test.YtjgonofkklpgaaaDoorShp
import Derived.RegionTactic
import Derived.Deep.RegionHeld3
namespace Go.Proofs.YtjgonofkklpgaaaDoor
open Go.RowKit

theorem limbN_hi (b : Nat) : limbN b 1 = b / 18446744073709551616 % 18446744073709551616 := rfl
theorem hi_zero (b : Nat) (h : b < 2 ^ 128) : (limb b 1 == 0) = decide (b < 2 ^ 64) := by
  unfold limb limbN
  rw [Bool.eq_iff_iff, beq_iff_eq, decide_eq_true_iff]
  rw [show 64 * 1 = 64 from rfl]
  omega
theorem lo_small (b s : Nat) (h : b < 2 ^ 64) (hs : s = 32 ∨ s = 16) : (limb b 0 / 2 ^ s == 0) = decide (b < 2 ^ s) := by
  unfold limb limbN
  rw [Bool.eq_iff_iff, beq_iff_eq, decide_eq_true_iff]
  rcases hs with rfl | rfl <;> omega

set_option maxHeartbeats 3200000 in
set_option maxRecDepth 100000 in
theorem shapeWidth_0 (w : World) : Calls Tryd.prog 27 #[.int .u8 0] w fun e w' => e = .returned (.int .i64 32) ∧ Below w.heap.size w w' := shapeWidth_any 0 w (by decide)
set_option maxHeartbeats 3200000 in
set_option maxRecDepth 100000 in
theorem shapeFits_0a (b : Nat) (w : World) (h1 : (limb b 1 == 0) = false) :
    Calls Tryd.prog 47 #[.int .u8 0, BV b] w fun e w' => e = .returned (.bool false) ∧ Below w.heap.size w w' := by
  go_enter Tryd.func47, Tryd.ntmps47
  go_wp2_with fail
  go_region
  all_goals go_wp2
  all_goals go_ret
  all_goals exact ⟨rfl, belowN ((Below.refl _ _).alloc (Nat.le_refl _) _) _⟩
set_option maxHeartbeats 3200000 in
set_option maxRecDepth 100000 in
theorem shapeFits_0b (b : Nat) (w : World) (l : Bool) (h1 : (limb b 1 == 0) = true) (h2 : (limb b 0 / 2 ^ 32 == 0) = l) :
    Calls Tryd.prog 47 #[.int .u8 0, BV b] w fun e w' => e = .returned (.bool l) ∧ Below w.heap.size w w' := by
  go_enter Tryd.func47, Tryd.ntmps47
  go_wp2_with fail
  have c0 : (w.alloc (.cells #[.int .u64 (limb b 1), .int .u64 (limb b 0)] 26 (0, 0))).cell? ⟨w.heap.size, 0, none⟩ = some (.int .u64 (limb b 1)) := by go_simp
  have c1 : (w.alloc (.cells #[.int .u64 (limb b 1), .int .u64 (limb b 0)] 26 (0, 0))).cell? ⟨w.heap.size, 1, none⟩ = some (.int .u64 (limb b 0)) := by go_simp
  go_region_held3 (fun w' => w'.cell? ⟨w.heap.size, 0, none⟩ = some (.int .u64 (limb b 1)) ∧ w'.cell? ⟨w.heap.size, 1, none⟩ = some (.int .u64 (limb b 0))) (first | exact ⟨c0, c1⟩ | exact ⟨g0, g1⟩)
    (first | (go_at_call 27; refine (shapeWidth_0 _).mono ?_; rintro e w3 ⟨rfl, hb3⟩; have g0 := (hb3.cell (p := ⟨w.heap.size, 0, none⟩) (by simp)).trans c0; have g1 := (hb3.cell (p := ⟨w.heap.size, 1, none⟩) (by simp)).trans c1))
  all_goals
    replace hb3 := (((Below.refl w.heap.size w).alloc (Nat.le_refl _) (.cells #[.int .u64 (limb b 1), .int .u64 (limb b 0)] 26 (0, 0))).drew).trans (hb3.mono (by simp))
    go_wp2
  all_goals go_ret
  all_goals exact ⟨ret_bool (by rw [show min (IntKind.u64.wrap 32).toNat 64 = 32 from by decide]; exact h2), by first | exact hb3 | exact hb3.drew | exact belowN hb3 _⟩
set_option maxHeartbeats 3200000 in
set_option maxRecDepth 100000 in
theorem shapeWidth_2 (w : World) : Calls Tryd.prog 27 #[.int .u8 2] w fun e w' => e = .returned (.int .i64 16) ∧ Below w.heap.size w w' := shapeWidth_any 2 w (by decide)
set_option maxHeartbeats 3200000 in
set_option maxRecDepth 100000 in
theorem shapeFits_2a (b : Nat) (w : World) (h1 : (limb b 1 == 0) = false) :
    Calls Tryd.prog 47 #[.int .u8 2, BV b] w fun e w' => e = .returned (.bool false) ∧ Below w.heap.size w w' := by
  go_enter Tryd.func47, Tryd.ntmps47
  go_wp2_with fail
  go_region
  all_goals go_wp2
  all_goals go_ret
  all_goals exact ⟨rfl, belowN ((Below.refl _ _).alloc (Nat.le_refl _) _) _⟩
set_option maxHeartbeats 3200000 in
set_option maxRecDepth 100000 in
theorem shapeFits_2b (b : Nat) (w : World) (l : Bool) (h1 : (limb b 1 == 0) = true) (h2 : (limb b 0 / 2 ^ 16 == 0) = l) :
    Calls Tryd.prog 47 #[.int .u8 2, BV b] w fun e w' => e = .returned (.bool l) ∧ Below w.heap.size w w' := by
  go_enter Tryd.func47, Tryd.ntmps47
  go_wp2_with fail
  have c0 : (w.alloc (.cells #[.int .u64 (limb b 1), .int .u64 (limb b 0)] 26 (0, 0))).cell? ⟨w.heap.size, 0, none⟩ = some (.int .u64 (limb b 1)) := by go_simp
  have c1 : (w.alloc (.cells #[.int .u64 (limb b 1), .int .u64 (limb b 0)] 26 (0, 0))).cell? ⟨w.heap.size, 1, none⟩ = some (.int .u64 (limb b 0)) := by go_simp
  go_region_held3 (fun w' => w'.cell? ⟨w.heap.size, 0, none⟩ = some (.int .u64 (limb b 1)) ∧ w'.cell? ⟨w.heap.size, 1, none⟩ = some (.int .u64 (limb b 0))) (first | exact ⟨c0, c1⟩ | exact ⟨g0, g1⟩)
    (first | (go_at_call 27; refine (shapeWidth_2 _).mono ?_; rintro e w3 ⟨rfl, hb3⟩; have g0 := (hb3.cell (p := ⟨w.heap.size, 0, none⟩) (by simp)).trans c0; have g1 := (hb3.cell (p := ⟨w.heap.size, 1, none⟩) (by simp)).trans c1))
  all_goals
    replace hb3 := (((Below.refl w.heap.size w).alloc (Nat.le_refl _) (.cells #[.int .u64 (limb b 1), .int .u64 (limb b 0)] 26 (0, 0))).drew).trans (hb3.mono (by simp))
    go_wp2
  all_goals go_ret
  all_goals exact ⟨ret_bool (by rw [show min (IntKind.u64.wrap 16).toNat 64 = 16 from by decide]; exact h2), by first | exact hb3 | exact hb3.drew | exact belowN hb3 _⟩
set_option maxHeartbeats 3200000 in
set_option maxRecDepth 100000 in
theorem shapeFits_1 (b : Nat) (w : World) (l : Bool) (h1 : (limb b 1 == 0) = l) :
    Calls Tryd.prog 47 #[.int .u8 1, BV b] w fun e w' => e = .returned (.bool l) ∧ Below w.heap.size w w' := by
  go_enter Tryd.func47, Tryd.ntmps47
  go_wp2
  go_ret
  exact ⟨rfl, (Below.refl _ _).alloc (Nat.le_refl _) _⟩
set_option maxHeartbeats 3200000 in
set_option maxRecDepth 100000 in
theorem shapeFits_3 (b : Nat) (w : World) :
    Calls Tryd.prog 47 #[.int .u8 3, BV b] w fun e w' => e = .returned (.bool true) ∧ Below w.heap.size w w' := by
  go_enter Tryd.func47, Tryd.ntmps47
  go_wp2
  go_ret
  exact ⟨rfl, (Below.refl _ _).alloc (Nat.le_refl _) _⟩
set_option maxHeartbeats 3200000 in
set_option maxRecDepth 100000 in
theorem shapeFits_4 (f b : Nat) (w : World) (h : 4 ≤ f) :
    Calls Tryd.prog 47 #[.int .u8 f, BV b] w fun e w' => e = .returned (.bool false) ∧ Below w.heap.size w w' := by
  have e0 : ((f : Int) == 0) = false := by simp; omega
  have e1 : ((f : Int) == 1) = false := by simp; omega
  have e2 : ((f : Int) == 2) = false := by simp; omega
  have e3 : ((f : Int) == 3) = false := by simp; omega
  have h4 : (4 : Int) ≤ (f : Int) := by omega
  go_enter Tryd.func47, Tryd.ntmps47
  go_wp2
  go_ret
  exact ⟨rfl, (Below.refl _ _).alloc (Nat.le_refl _) _⟩
theorem shapeFits_any (f b : Nat) (w : World) (hb : b < 2 ^ 128) :
    Calls Tryd.prog 47 #[.int .u8 f, BV b] w fun e w' => e = .returned (.bool (fitsB f b)) ∧ Below w.heap.size w w' := by
  have h1 := hi_zero b hb
  rcases forms f with rfl | rfl | rfl | rfl | h
  · by_cases h : b < 2 ^ 64
    · rw [decide_eq_true h] at h1
      have := shapeFits_0b b w _ h1 (lo_small b 32 h (by omega))
      rw [show fitsB 0 b = decide (b < 2 ^ 32) by simp [fitsB, wF]]
      exact this
    · rw [decide_eq_false h] at h1
      rw [show fitsB 0 b = false by simp [fitsB, wF]; omega]
      exact shapeFits_0a b w h1
  · rw [show fitsB 1 b = decide (b < 2 ^ 64) by simp [fitsB, wF]]
    exact shapeFits_1 b w _ h1
  · by_cases h : b < 2 ^ 64
    · rw [decide_eq_true h] at h1
      have := shapeFits_2b b w _ h1 (lo_small b 16 h (by omega))
      rw [show fitsB 2 b = decide (b < 2 ^ 16) by simp [fitsB, wF]]
      exact this
    · rw [decide_eq_false h] at h1
      rw [show fitsB 2 b = false by simp [fitsB, wF]; omega]
      exact shapeFits_2a b w h1
  · rw [show fitsB 3 b = true by simp [fitsB, wF]; omega]
    exact shapeFits_3 b w
  · rw [show fitsB f b = false by simp [fitsB]; omega]
    exact shapeFits_4 f b w h
end Go.Proofs.YtjgonofkklpgaaaDoor
