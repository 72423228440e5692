/- TointWhole, joined: for every input the law answers true. -/
import Derived.Test.YtjgonofkklpgaaaDoorTlw
namespace Go.Proofs.YtjgonofkklpgaaaDoor
open Go.RowKit

theorem conv_flags (k f m a : Nat) : (convR k f m a).2 = 0 ∨ (convR k f m a).2 = 1 ∨ (convR k f m a).2 = 16 := by
  unfold convR
  split
  · split
    · right; right; rfl
    · split
      · right; right; rfl
      · cases wholeX f m a
        · right; left; rfl
        · left; rfl
  · cases belowN4 (clsN f a) <;> (right; right; rfl)
theorem convN_ok (k f m a : Nat) (h : convOk k f m a = true) : convN k f m a = ((convR k f m a).1, (convR k f m a).2, 0) := by unfold convN; rw [h]; rfl
theorem convN_no (k f m a : Nat) (h : convOk k f m a = false) : convN k f m a = (0, 0, 2) := by unfold convN; rw [h]; rfl
theorem tointLaw_any (f m n a : Nat) (w : World) (hf8 : f < 256) (hm : m < 256) (hn : n < 256) (ha : a < 2 ^ (64 * 2)) (hT : Tab w) :
    Calls Tryd.prog 3 #[.int .u8 f, .int .u8 m, .int .u8 n, BV a] w fun e w' => e = .returned (.bool true) ∧ Below w.heap.size w w' := by
  have cA := fun w hT => tointConvert_any 0 f m a w (by decide) hf8 hm ha hT
  have cB := fun w hT => tointConvert_any 2 f m a w (by decide) hf8 hm ha hT
  have cU := fun w hT => tointConvert_any 3 f m a w (by decide) hf8 hm ha hT
  have cD := fun w hT => tointConvert_any 0 f n a w (by decide) hf8 hn ha hT
  have cM := fun w => shapeCheckMode_any n w hn
  have cW := fun w hT => tointWhole_any f m a w hm ha hT
  cases hfm : fitsB f a && decide (m < 5)
  · rw [convN_no 0 f m a (by unfold convOk; rw [hfm]; rfl)] at cA
    rw [convN_no 2 f m a (by unfold convOk; rw [hfm]; rfl)] at cB
    exact tointLaw_bad f m n a w hT cA cB
  · rw [convN_ok 0 f m a (by unfold convOk; rw [hfm]; rfl)] at cA
    rw [convN_ok 2 f m a (by unfold convOk; rw [hfm]; rfl)] at cB
    rw [convN_ok 3 f m a (by unfold convOk; rw [hfm]; rfl)] at cU
    by_cases hn5 : n < 5
    · rw [decide_eq_true hn5] at cM
      have hfit : fitsB f a = true := by cases h : fitsB f a; rw [h] at hfm; cases hfm; rfl
      rw [convN_ok 0 f n a (by unfold convOk; rw [hfit, decide_eq_true hn5]; rfl)] at cD
      have hv : wholeN f m a < top6 := by
        by_cases h : wholeE f m a = 0
        · exact wholeN_lt f m a h
        · unfold wholeN; rw [decide_eq_false h]; exact zero_top
      rcases conv_flags 0 f m a with hfl | hfl | hfl
      · have hWL := conv_W_L f m a (by omega)
        have hD := conv_mode 0 f m n a hn5 hfl hfm
        rw [← hWL, hfl] at cB
        rw [hfl] at cA
        rw [hD, hfl] at cD
        by_cases he : wholeE f m a = 0
        · rw [he] at cW
          by_cases hz : wholeN f m a = 0
          · obtain ⟨z1, z2, z3⟩ := whole_zero f m a he hz
            rw [z1] at cW
            rw [z2] at cU
            have hu : (convR 3 f m a).2 = 0 ∨ (convR 3 f m a).2 = 1 := by omega
            exact tointLaw_0_zero f m n a _ _ 0 0 0 _ _ false w hT hv cA cB cD cM (decide_eq_true hz) (by rcases hu with h | h <;> rw [h] <;> decide +kernel) cW cU
          · exact tointLaw_0_num f m n a _ _ 0 0 0 0 _ _ w hT hv cA cB cD cM (decide_eq_false hz) cW
        · exact tointLaw_0_none f m n a _ _ 0 0 _ 0 _ _ w hT hv cA cB cD cM (by simpa using he) cW
      · have hWL := conv_W_L f m a (by omega)
        rw [← hWL, hfl] at cB
        rw [hfl] at cA
        by_cases he : wholeE f m a = 0
        · rw [he] at cW
          by_cases hz : wholeN f m a = 0
          · obtain ⟨z1, z2, z3⟩ := whole_zero f m a he hz
            rw [z1] at cW
            rw [z2] at cU
            have hu : (convR 3 f m a).2 = 0 ∨ (convR 3 f m a).2 = 1 := by omega
            exact tointLaw_1_zero f m n a _ _ 0 0 0 _ _ false w hT hv cA cB cM (decide_eq_true hz) (by rcases hu with h | h <;> rw [h] <;> decide +kernel) cW cU
          · exact tointLaw_1_num f m n a _ _ 0 0 0 0 _ _ w hT hv cA cB cM (decide_eq_false hz) cW
        · exact tointLaw_1_none f m n a _ _ 0 0 _ 0 _ _ w hT hv cA cB cM (by simpa using he) cW
      · rw [hfl] at cA
        by_cases he : wholeE f m a = 0
        · rw [he] at cW
          by_cases hz : wholeN f m a = 0
          · obtain ⟨z1, z2, z3⟩ := whole_zero f m a he hz
            rw [z1] at cW
            rw [z2] at cU
            have hu : (convR 3 f m a).2 = 0 ∨ (convR 3 f m a).2 = 1 := by omega
            exact tointLaw_16_zero f m n a _ _ _ _ 0 _ _ false w hT hv cA cB cM (decide_eq_true hz) (by rcases hu with h | h <;> rw [h] <;> decide +kernel) cW cU
          · exact tointLaw_16_num f m n a _ _ _ _ 0 0 _ _ w hT hv cA cB cM (decide_eq_false hz) cW
        · exact tointLaw_16_none f m n a _ _ _ _ _ 0 _ _ w hT hv cA cB cM (by simpa using he) cW
    · rw [decide_eq_false hn5] at cM
      exact tointLaw_mode f m n a _ _ _ _ w hT cA cB cM
end Go.Proofs.YtjgonofkklpgaaaDoor
