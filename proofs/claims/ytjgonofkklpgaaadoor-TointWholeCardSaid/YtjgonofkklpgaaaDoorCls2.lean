/- The contracts of kind.class and kind.Class. -/
import Derived.Test.YtjgonofkklpgaaaDoorCls
namespace Go.Proofs.YtjgonofkklpgaaaDoor
open Go.RowKit

theorem u8_eq {x y : Int} {e : Ending} {P : Prop} (h : x = y) (k : e = .returned (.int .u8 x) ∧ P) : e = .returned (.int .u8 y) ∧ P := by rw [← h]; exact k
theorem kindclass_any (f b : Nat) (w : World) (hf : f < 4) (hb : b < 2 ^ (64 * 2)) (hT : Tab w) :
    Calls Tryd.prog 70 #[.int .u8 f, BV b] w fun e w' => e = .returned (.int .u8 (clsN f b : Nat)) ∧ Below w.heap.size w w' := by
  have cF := fun w hT => kindFields_any f b w hf hb hT
  have cE := fun w => shapeEmax_any f w (by omega)
  have cP := fun w => shapePrecision_any f w (by omega)
  obtain ⟨p1, p2, -, -, -, -⟩ := formB f hf
  have em := eF_le f
  have ht : b % 2 ^ (pF f - 1) < top6 := Nat.lt_of_le_of_lt (Nat.mod_le _ _) (lt_top_bits b hb)
  unfold clsN
  generalize b % 2 ^ (pF f - 1) = t at *
  generalize expN f b = e at *
  generalize b.testBit (wF f - 1) = neg at *
  generalize eF f = m at *
  generalize pF f = p at *
  by_cases hx : e = 2 * m + 1
  · have hy : 0 < (e : Int) := by omega
    have hx' : (e : Int) = 2 * (m : Int) + 1 := by omega
    rw [if_pos hx]
    by_cases hz : t = 0
    · rw [if_pos hz]
      exact (kindClass_inf f b e t m p neg false w em p1 p2 ht hT cF cE cP (decide_eq_true hz) hx' hy).mono fun e' w' h => u8_eq (by cases neg <;> rfl) h
    · rw [if_neg hz]
      exact (kindClass_nan f b e t m p neg (t.testBit (p - 2)) w em p1 p2 ht hT cF cE cP (decide_eq_false hz) hx' hy rfl).mono fun e' w' h => u8_eq (by cases t.testBit (p - 2) <;> rfl) h
  · have hx' : ¬ (e : Int) = 2 * (m : Int) + 1 := by omega
    rw [if_neg hx]
    by_cases hy : e = 0
    · have hy' : (e : Int) = 0 := by omega
      rw [if_pos hy]
      by_cases hz : t = 0
      · rw [if_pos hz]
        exact (kindClass_zer f b e t m p neg false w em p1 p2 ht hT cF cE cP (decide_eq_true hz) hx' hy').mono fun e' w' h => u8_eq (by cases neg <;> rfl) h
      · rw [if_neg hz]
        exact (kindClass_sub f b e t m p neg false w em p1 p2 ht hT cF cE cP (decide_eq_false hz) hx' hy').mono fun e' w' h => u8_eq (by cases neg <;> rfl) h
    · have hy' : 0 < (e : Int) := by omega
      rw [if_neg hy]
      by_cases hz : t = 0
      · exact (kindClass_pow f b e t m p neg false w em p1 p2 ht hT cF cE cP (decide_eq_true hz) hx' hy').mono fun e' w' h => u8_eq (by cases neg <;> rfl) h
      · exact (kindClass_nor f b e t m p neg false w em p1 p2 ht hT cF cE cP (decide_eq_false hz) hx' hy').mono fun e' w' h => u8_eq (by cases neg <;> rfl) h

set_option maxHeartbeats 1600000 in
set_option maxRecDepth 100000 in
theorem kindClass_any (f b : Nat) (w : World) (hf : f < 256) (hb : b < 2 ^ (64 * 2)) (hT : Tab w) :
    Calls Tryd.prog 25 #[.int .u8 f, BV b] w fun e w' => e = .returned (.tuple #[.int .u8 (cond (fitsB f b) (clsN f b) 0 : Nat), .int .i64 (cond (fitsB f b) 0 2)]) ∧ Below w.heap.size w w' := by
  have cT := fun w => shapeFits_any f b w hb
  have hT1 := hT.below ((Below.refl w.heap.size w).alloc (Nat.le_refl _) (.cells #[.int .u64 (limb b 1), .int .u64 (limb b 0)] 26 (0, 0)))
  by_cases h : fitsB f b = true
  · have hf4 : f < 4 := by unfold fitsB at h; simp at h; exact h.1
    have cC := fun w hT => kindclass_any f b w hf4 hb hT
    rw [h] at cT ⊢
    have HT := Lib.hid hT1
    clear hT hT1 hb h
    go_enter Tryd.func25, Tryd.ntmps25
    go_wp2_with fail
    refine (cT _).mono ?_
    rintro e w1 ⟨rfl, hb1⟩
    have g0 := (hb1.cell (p := ⟨w.heap.size, 0, none⟩) (by simp)).trans (by go_simp : _ = some (.int .u64 (limb b 1)))
    have g1 := (hb1.cell (p := ⟨w.heap.size, 1, none⟩) (by simp)).trans (by go_simp : _ = some (.int .u64 (limb b 0)))
    go_wp2_with fail
    refine (cC _ (HT.out.below (hb1.mono (by simp)))).mono ?_
    rintro e w2 ⟨rfl, hb2⟩
    go_wp2
    go_ret2
    have hs1 := hb1.size
    simp at hs1
    exact ⟨rfl, (((Below.refl w.heap.size w).alloc (Nat.le_refl _) _).trans (hb1.mono (by simp))).trans (hb2.mono (by omega))⟩
  · have h' : fitsB f b = false := by simpa using h
    rw [h'] at cT ⊢
    clear hT hT1 hb h h'
    go_enter Tryd.func25, Tryd.ntmps25
    go_wp2_with fail
    refine (cT _).mono ?_
    rintro e w1 ⟨rfl, hb1⟩
    go_wp2
    go_ret2
    exact ⟨rfl, ((Below.refl w.heap.size w).alloc (Nat.le_refl _) _).trans (hb1.mono (by simp))⟩
end Go.Proofs.YtjgonofkklpgaaaDoor
