/- The contract of toint.Whole, joined. -/
import Derived.Test.YtjgonofkklpgaaaDoorTwk
namespace Go.Proofs.YtjgonofkklpgaaaDoor
open Go.RowKit

theorem odd_limb (n : Nat) : (Go.bits .and .u64 (limb n 0) 1 == 1) = decide (n % 2 = 1) := by
  have h1 : (1 : Int) = limb 1 0 := rfl
  rw [h1, limb_and, show n &&& 1 = n % 2 from Nat.and_one_is_mod n, ← h1]
  unfold limb limbN
  rw [Nat.mul_zero, Nat.pow_zero, Nat.div_one, Nat.mod_eq_of_lt (by omega), Bool.eq_iff_iff, beq_iff_eq, decide_eq_true_iff]
  omega
theorem halfN_cases (a n : Nat) : halfN a n = -1 ∨ halfN a n = 0 ∨ halfN a n = 1 := by
  unfold halfN
  split
  · simp
  · split
    · split <;> simp
    · simp
theorem sigN_lt (f a : Nat) (hf : f < 4) : sigN f a < 2 ^ 113 := by
  have ht := Nat.mod_lt a (two_pos (pF f - 1))
  have hp := pow_pred f hf
  have h8 := (formK f hf).2.2.2.2.2.2.2
  have hm : 2 ^ pF f ≤ 2 ^ 113 := Nat.pow_le_pow_right (by decide) h8
  unfold sigN
  split
  · omega
  · split
    · omega
    · have := two_pos (pF f); omega
theorem lt_of_pow (T b c x : Nat) (h : T = 2 ^ c) (hb : b ≤ c) (hx : x < 2 ^ b) : x < T := by rw [h]; exact Nat.lt_of_lt_of_le hx (pow_mono2 b c hb)
theorem lt_top113 (x : Nat) (h : x < 2 ^ 114) : x < top6 := lt_of_pow top6 114 (64 * 6) x top6.eq_1 (by decide) h
theorem xpN_bd (f a : Nat) (hf : f < 4) : -40000 < xpN f a ∧ xpN f a < 40000 := by
  obtain ⟨h1, h2, h3, h4, h5, h6, h7, h8⟩ := formK f hf
  have hx := expN_lt f a hf
  unfold xpN
  split
  · omega
  · split <;> omega
theorem ret_whole {n n' : Bool} {v v' : Nat} {x x' : Bool} {d d' : Int} {e : Ending} {P : Prop} (h1 : n = n') (h2 : v = v') (h3 : x = x') (h4 : d = d') (k : e = .returned (.tuple #[.bool n, W v, .bool x, .int .i64 d]) ∧ P) :
    e = .returned (.tuple #[.bool n', W v', .bool x', .int .i64 d']) ∧ P := by subst h1 h2 h3 h4; exact k

theorem tointWhole_any (f m a : Nat) (w : World) (hm : m < 256) (ha : a < 2 ^ (64 * 2)) (hT : Tab w) :
    Calls Tryd.prog 17 #[.int .u8 f, .int .u8 m, BV a] w fun e w' => e = .returned (.tuple #[.bool (wholeNeg f m a), W (wholeN f m a), .bool (wholeX f m a), .int .i64 (wholeE f m a)]) ∧ Below w.heap.size w w' := by
  have cM := fun w => shapeCheckMode_any m w hm
  by_cases hfit : fitsB f a = true
  · have hf := ((fits_iff f a).1 hfit).1
    have cU := fun w hT => kindUnpack_yes f a w hfit hT
    have hs := sigN_lt f a hf
    obtain ⟨hx1, hx2⟩ := xpN_bd f a hf
    have hc9 := cls_le f a
    by_cases h5 : m < 5
    · rw [decide_eq_true h5] at cM
      have okE : wholeE f m a = cond (noFin (clsN f a)) 80 (cond (decide (top6 ≤ (wholeG f m a).1)) 4 0) := by unfold wholeE; rw [hfit, decide_eq_true h5]; rfl
      by_cases hnf : clsN f a = 0 ∨ 7 ≤ clsN f a
      · have hE : wholeE f m a = 80 := by rw [okE]; unfold noFin; rcases hnf with h | h <;> simp [h]
        have post : ∀ e w', (e = Ending.returned (.tuple #[.bool false, W 0, .bool false, .int .i64 80]) ∧ Below w.heap.size w w') → e = Ending.returned (.tuple #[.bool (wholeNeg f m a), W (wholeN f m a), .bool (wholeX f m a), .int .i64 (wholeE f m a)]) ∧ Below w.heap.size w w' := fun e w' k =>
          ret_whole (by unfold wholeNeg; rw [hE]; rfl) (by unfold wholeN; rw [hE]; rfl) (by unfold wholeX; rw [hE]; rfl) hE.symm k
        rcases hnf with h | h
        · rw [h] at cU
          exact (tointWhole_inf0 f m a _ _ _ w hT cU cM).mono post
        · exact (tointWhole_inf7 f m a _ _ _ _ w hT (by omega) cU cM).mono post
      · have hc0 : 0 < clsN f a := by omega
        have hc7 : clsN f a < 7 := by omega
        have hnF : noFin (clsN f a) = false := by unfold noFin; rw [decide_eq_false (by omega), decide_eq_false (by omega)]; rfl
        rw [hnF] at okE
        have hb4 : decide ((clsN f a : Int) < 4) = belowN4 (clsN f a) := by unfold belowN4; rw [Bool.eq_iff_iff, decide_eq_true_iff, decide_eq_true_iff]; omega
        by_cases hx : 0 ≤ xpN f a
        · have hG : wholeG f m a = (sigN f a * 2 ^ (xpN f a).toNat, true) := by
            unfold wholeG gridN; rw [if_pos hx, Int.sub_zero]; rfl
          have cL := fun w => wideLeft_n (sigN f a) (xpN f a) w (lt_top113 _ (by omega))
          by_cases hlong : top6 ≤ sigN f a * 2 ^ (xpN f a).toNat
          · rw [decide_eq_true hlong] at cL
            have hE : wholeE f m a = 4 := by rw [okE, hG, decide_eq_true hlong]; rfl
            exact (tointWhole_long f m a _ _ _ _ _ w hT hc0 hc7 hx cU cM cL).mono fun e w' k =>
              ret_whole (by unfold wholeNeg; rw [hE]; rfl) (by unfold wholeN; rw [hE]; rfl) (by unfold wholeX; rw [hE]; rfl) hE.symm k
          · rw [decide_eq_false hlong] at cL
            have hE : wholeE f m a = 0 := by rw [okE, hG, decide_eq_false hlong]; rfl
            cases hb : belowN4 (clsN f a)
            · exact (tointWhole_up_f f m a _ _ _ _ _ w hT hc0 hc7 (hb4.trans hb) (by omega) hx cU cM cL).mono fun e w' k =>
                ret_whole (by unfold wholeNeg; rw [hE, hb]; rfl) (by unfold wholeN; rw [hE, hG]; rfl) (by unfold wholeX; rw [hE, hG]; rfl) hE.symm k
            · exact (tointWhole_up_t f m a _ _ _ _ _ w hT hc0 hc7 (hb4.trans hb) (by omega) hx cU cM cL).mono fun e w' k =>
                ret_whole (by unfold wholeNeg; rw [hE, hb, hG]; rfl) (by unfold wholeN; rw [hE, hG]; rfl) (by unfold wholeX; rw [hE, hG]; rfl) hE.symm k
        · have ht : (0 - xpN f a).toNat = (-xpN f a).toNat := by rw [Int.zero_sub]
          have cC := fun w hT => jamCut_any (sigN f a) (-xpN f a) w (lt_top113 _ (by omega)) hT
          have cR := fun w => roundUp_any m (belowN4 (clsN f a)) (Go.bits .and .u64 (limb (sigN f a / 2 ^ (-xpN f a).toNat) 0) 1 == 1) (halfN (sigN f a) (-xpN f a).toNat) (decide (sigN f a % 2 ^ (-xpN f a).toNat = 0)) w hm (halfN_cases _ _)
          have hq : sigN f a / 2 ^ (-xpN f a).toNat ≤ sigN f a := Nat.div_le_self _ _
          cases hu : upB m (belowN4 (clsN f a)) (Go.bits .and .u64 (limb (sigN f a / 2 ^ (-xpN f a).toNat) 0) 1 == 1) (halfN (sigN f a) (-xpN f a).toNat) (decide (sigN f a % 2 ^ (-xpN f a).toNat = 0))
          · have hG : wholeG f m a = (sigN f a / 2 ^ (-xpN f a).toNat, decide (sigN f a % 2 ^ (-xpN f a).toNat = 0)) := by
              unfold wholeG gridN; rw [if_neg hx, ht]
              rw [odd_limb] at hu
              simp only [Bool.false_and, cond, Bool.not_false, Bool.and_true]
              rw [hu]; rfl
            have hE : wholeE f m a = 0 := by rw [okE, hG, decide_eq_false (by have := lt_top113 _ (show sigN f a / 2 ^ (-xpN f a).toNat < 2 ^ 114 by omega); first | omega | (simp only []; omega))]; rfl
            rw [hu] at cR
            cases hb : belowN4 (clsN f a)
            · rw [hb] at cR
              exact (tointWhole_cut_ff f m a _ _ _ _ _ _ _ w hT hc0 hc7 (hb4.trans hb) (lt_top113 _ (by omega)) (by omega) hx1 cU cM cC cR).mono fun e w' k =>
                ret_whole (by unfold wholeNeg; rw [hE, hb]; rfl) (by unfold wholeN; rw [hE, hG]; rfl) (by unfold wholeX; rw [hE, hG]; rfl) hE.symm k
            · rw [hb] at cR
              exact (tointWhole_cut_ft f m a _ _ _ _ _ _ _ w hT hc0 hc7 (hb4.trans hb) (lt_top113 _ (by omega)) (by omega) hx1 cU cM cC cR).mono fun e w' k =>
                ret_whole (by unfold wholeNeg; rw [hE, hb, hG]; rfl) (by unfold wholeN; rw [hE, hG]; rfl) (by unfold wholeX; rw [hE, hG]; rfl) hE.symm k
          · have hG : wholeG f m a = (sigN f a / 2 ^ (-xpN f a).toNat + 1, decide (sigN f a % 2 ^ (-xpN f a).toNat = 0)) := by
              unfold wholeG gridN; rw [if_neg hx, ht]
              rw [odd_limb] at hu
              simp only [Bool.false_and, cond, Bool.not_false, Bool.and_true]
              rw [hu]
            have hE : wholeE f m a = 0 := by rw [okE, hG, decide_eq_false (by have := lt_top113 _ (show sigN f a / 2 ^ (-xpN f a).toNat + 1 < 2 ^ 114 by omega); first | omega | (simp only []; omega))]; rfl
            rw [hu] at cR
            cases hb : belowN4 (clsN f a)
            · rw [hb] at cR
              exact (tointWhole_cut_tf f m a _ _ _ _ _ _ _ w hT hc0 hc7 (hb4.trans hb) (lt_top113 _ (by omega)) (by omega) hx1 cU cM cC cR).mono fun e w' k =>
                ret_whole (by unfold wholeNeg; rw [hE, hb]; rfl) (by unfold wholeN; rw [hE, hG]; rfl) (by unfold wholeX; rw [hE, hG]; rfl) hE.symm k
            · rw [hb] at cR
              exact (tointWhole_cut_tt f m a _ _ _ _ _ _ _ w hT hc0 hc7 (hb4.trans hb) (lt_top113 _ (by omega)) (by omega) hx1 cU cM cC cR).mono fun e w' k =>
                ret_whole (by unfold wholeNeg; rw [hE, hb, hG]; rfl) (by unfold wholeN; rw [hE, hG]; rfl) (by unfold wholeX; rw [hE, hG]; rfl) hE.symm k
    · rw [decide_eq_false h5] at cM
      have hE : wholeE f m a = 2 := by unfold wholeE; rw [decide_eq_false h5, Bool.and_false]; rfl
      exact (tointWhole_mode f m a _ _ _ _ w hT cU cM).mono fun e w' k =>
        ret_whole (by unfold wholeNeg; rw [hE]; rfl) (by unfold wholeN; rw [hE]; rfl) (by unfold wholeX; rw [hE]; rfl) hE.symm k
  · have hfit' : fitsB f a = false := by simpa using hfit
    have cU := fun w (_ : Tab w) => kindUnpack_not f a w ha hfit'
    have hE : wholeE f m a = 2 := by unfold wholeE; rw [hfit', Bool.false_and]; rfl
    exact (tointWhole_no f m a _ _ _ _ w hT cU).mono fun e w' k =>
      ret_whole (by unfold wholeNeg; rw [hE]; rfl) (by unfold wholeN; rw [hE]; rfl) (by unfold wholeX; rw [hE]; rfl) hE.symm k
end Go.Proofs.YtjgonofkklpgaaaDoor
