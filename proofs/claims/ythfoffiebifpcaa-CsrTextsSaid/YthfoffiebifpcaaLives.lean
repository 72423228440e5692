/- The contract of lives: it returns true, and what was there stays. -/
import Derived.Test.YthfoffiebifpcaaText
namespace Go.Proofs.Ythfoffiebifpcaa
open Go.RowKit

theorem text21 : textB 21 = ⟨#[110, 118, 43, 111, 102, 43, 110, 120]⟩ := by decide +kernel

set_option maxHeartbeats 1600000 in
set_option maxRecDepth 100000 in
theorem lives_true (w : World) :
    Calls Try.prog 15 #[] w fun e w' => e = .returned (.bool true) ∧ Below w.heap.size w w' := by
  go_enter Try.func15, Try.ntmps15
  go_wp2_with (first | (go_at_call 26; refine (text_any 21 _ (by decide) (by decide)).mono ?_; rw [text21]; rintro e w1 ⟨rfl, hb1⟩) | go_in)
  go_ret
  exact ⟨by simp, hb1⟩
end Go.Proofs.Ythfoffiebifpcaa
