/- The contract of toint.Convert, joined. -/
import Derived.Test.YtjgonofkklpgaaaDoorTcv
namespace Go.Proofs.YtjgonofkklpgaaaDoor
open Go.RowKit

theorem ret_conv {x x' fl fl' : Nat} {d d' : Int} {e : Ending} {P : Prop} (h1 : x = x') (h2 : fl = fl') (h3 : d = d') (k : e = .returned (.tuple #[.int .u64 (x : Nat), .int .u8 (fl : Nat), .int .i64 d]) ∧ P) :
    e = .returned (.tuple #[.int .u64 (x' : Nat), .int .u8 (fl' : Nat), .int .i64 d']) ∧ P := by subst h1 h2 h3; exact k
theorem cmpN_pos (a b : Nat) : 0 < cmpN a b ↔ b < a := by
  unfold cmpN
  split
  · constructor <;> intro h <;> omega
  · split
    · constructor <;> intro h <;> omega
    · constructor <;> intro h <;> omega
theorem lowK_lt (k : Nat) : lowK k < 18446744073709551616 ∧ highK k < 18446744073709551616 := by
  match k with
  | 0 => decide
  | 1 => decide
  | 2 => decide
  | k + 3 => exact ⟨by show (0 : Nat) < _; decide, by show (18446744073709551615 : Nat) < _; decide⟩
theorem lt_top64 (x : Nat) (h : x < 18446744073709551616) : x < top6 := lt_top113 x (by omega)
theorem limb_zero_mod (n : Nat) : limb n 0 = ((n % 18446744073709551616 : Nat) : Int) := by unfold limb limbN; rw [Nat.mul_zero, Nat.pow_zero, Nat.div_one]
theorem wholeN_lt (f m a : Nat) (h : wholeE f m a = 0) : wholeN f m a < top6 := by
  unfold wholeN; rw [decide_eq_true h]
  show (wholeG f m a).1 < top6
  unfold wholeE at h
  rcases Nat.lt_or_ge (wholeG f m a).1 top6 with hl | hg
  · exact hl
  · rw [decide_eq_true hg] at h
    exfalso; revert h
    cases fitsB f a && decide (m < 5) <;> cases noFin (clsN f a) <;> simp

theorem tointConvert_any (k f m a : Nat) (w : World) (hk8 : k < 256) (hf8 : f < 256) (hm : m < 256) (ha : a < 2 ^ (64 * 2)) (hT : Tab w) :
    Calls Tryd.prog 14 #[.int .u8 k, .int .u8 f, .int .u8 m, BV a] w fun e w' => e = .returned (.tuple #[.int .u64 ((convN k f m a).1 : Nat), .int .u8 ((convN k f m a).2.1 : Nat), .int .i64 (convN k f m a).2.2]) ∧ Below w.heap.size w w' := by
  by_cases hk : k < 4
  · have cE := fun w => tointEnds_any k w hk
    have cW := fun w hT => tointWhole_any f m a w hm ha hT
    have hl := lowK_lt k
    by_cases h2 : wholeE f m a = 2
    · have hok : convOk k f m a = false := by unfold convOk; rw [(wholeE_two f m a).1 h2, Bool.and_false]
      rw [h2] at cW
      refine (tointConvert_arg k f m a _ _ _ _ _ w hT hk cW cE).mono fun e w' k => ret_conv (x := 0) (fl := 0) ?_ ?_ ?_ k
      · unfold convN; rw [hok]; rfl
      · unfold convN; rw [hok]; rfl
      · unfold convN; rw [hok]; rfl
    · have hfm : (fitsB f a && decide (m < 5)) = true := by
        cases h : fitsB f a && decide (m < 5)
        · exact absurd ((wholeE_two f m a).2 h) h2
        · rfl
      have hok : convOk k f m a = true := by unfold convOk; rw [hfm, decide_eq_true hk]; rfl
      have hfit : fitsB f a = true := by cases h : fitsB f a; rw [h] at hfm; cases hfm; rfl
      have cR : convN k f m a = ((convR k f m a).1, (convR k f m a).2, 0) := by unfold convN; rw [hok]; rfl
      rw [cR]
      by_cases h0 : wholeE f m a = 0
      · have hn := wholeN_lt f m a h0
        rw [h0] at cW
        cases hneg : wholeNeg f m a
        · rw [hneg] at cW
          have cO := fun w => wideOf_any (highK k) w hl.2
          have cQ := fun w => wideCmp_any (wholeN f m a) (highK k) w hn (lt_top64 _ hl.2)
          by_cases hout : highK k < wholeN f m a
          · have hR : convR k f m a = (toldN k false (highK k), 16) := by unfold convR; rw [if_pos h0, hneg, if_neg (by simp), if_pos ⟨rfl, hout⟩]
            have cT := fun w => tointTold_any k (highK k) false w hk hl.2
            exact (tointConvert_out_f k f m a _ _ _ _ _ _ w hT hk ((cmpN_pos _ _).2 hout) cW cE cO cQ cT).mono fun e w' k => ret_conv (fl := 16) (by rw [hR]) (by rw [hR]) rfl k
          · have hR : convR k f m a = (toldN k false (wholeN f m a % 18446744073709551616), cond (wholeX f m a) 0 1) := by unfold convR; rw [if_pos h0, hneg, if_neg (by simp), if_neg (by simp; omega)]
            have cT := fun w => tointTold_any k (wholeN f m a % 18446744073709551616) false w hk (Nat.mod_lt _ (by decide))
            rw [← limb_zero_mod] at cT
            cases hx : wholeX f m a
            · rw [hx] at cW hR
              exact (tointConvert_in_ff k f m a _ _ _ _ _ w hT hk (fun h => hout ((cmpN_pos _ _).1 h)) cW cE cO cQ cT).mono fun e w' k => ret_conv (fl := 1) (by rw [hR]) (by rw [hR]; rfl) rfl k
            · rw [hx] at cW hR
              exact (tointConvert_in_ft k f m a _ _ _ _ _ w hT hk (fun h => hout ((cmpN_pos _ _).1 h)) cW cE cO cQ cT).mono fun e w' k => ret_conv (fl := 0) (by rw [hR]) (by rw [hR]; rfl) rfl k
        · rw [hneg] at cW
          have cO := fun w => wideOf_any (lowK k) w hl.1
          have cQ := fun w => wideCmp_any (wholeN f m a) (lowK k) w hn (lt_top64 _ hl.1)
          by_cases hout : lowK k < wholeN f m a
          · have hR : convR k f m a = (toldN k true (lowK k), 16) := by unfold convR; rw [if_pos h0, hneg, if_pos ⟨rfl, hout⟩]
            have cT := fun w => tointTold_any k (lowK k) true w hk hl.1
            exact (tointConvert_out_t k f m a _ _ _ _ _ _ w hT hk ((cmpN_pos _ _).2 hout) cW cE cO cQ cT).mono fun e w' k => ret_conv (fl := 16) (by rw [hR]) (by rw [hR]) rfl k
          · have hR : convR k f m a = (toldN k true (wholeN f m a % 18446744073709551616), cond (wholeX f m a) 0 1) := by unfold convR; rw [if_pos h0, hneg, if_neg (by simp; omega), if_neg (by simp)]
            have cT := fun w => tointTold_any k (wholeN f m a % 18446744073709551616) true w hk (Nat.mod_lt _ (by decide))
            rw [← limb_zero_mod] at cT
            cases hx : wholeX f m a
            · rw [hx] at cW hR
              exact (tointConvert_in_tf k f m a _ _ _ _ _ w hT hk (fun h => hout ((cmpN_pos _ _).1 h)) cW cE cO cQ cT).mono fun e w' k => ret_conv (fl := 1) (by rw [hR]) (by rw [hR]; rfl) rfl k
            · rw [hx] at cW hR
              exact (tointConvert_in_tt k f m a _ _ _ _ _ w hT hk (fun h => hout ((cmpN_pos _ _).1 h)) cW cE cO cQ cT).mono fun e w' k => ret_conv (fl := 0) (by rw [hR]) (by rw [hR]; rfl) rfl k
      · have cC := fun w hT => kindClass_any f a w hf8 ha hT
        rw [hfit] at cC
        have b2 : (wholeE f m a == 2) = false := by simpa using h2
        have b0 : (wholeE f m a == 0) = false := by simpa using h0
        cases hb : belowN4 (clsN f a)
        · have hR : convR k f m a = (toldN k false (highK k), 16) := by unfold convR; rw [if_neg h0, hb]; rfl
          have cT := fun w => tointTold_any k (highK k) false w hk hl.2
          have hc : ¬ ((cond true (clsN f a) 0 : Nat) : Int) < 4 := by unfold belowN4 at hb; have := of_decide_eq_false hb; show ¬ ((clsN f a : Nat) : Int) < 4; omega
          exact (tointConvert_none_f k f m a _ _ _ _ _ _ _ _ _ w hT hk b2 b0 hc cW cE cC cT).mono fun e w' k => ret_conv (fl := 16) (by rw [hR]) (by rw [hR]) rfl k
        · have hR : convR k f m a = (toldN k true (lowK k), 16) := by unfold convR; rw [if_neg h0, hb]; rfl
          have cT := fun w => tointTold_any k (lowK k) true w hk hl.1
          have hc : ((cond true (clsN f a) 0 : Nat) : Int) < 4 := by unfold belowN4 at hb; have := of_decide_eq_true hb; show ((clsN f a : Nat) : Int) < 4; omega
          exact (tointConvert_none_t k f m a _ _ _ _ _ _ _ _ _ w hT hk b2 b0 hc cW cE cC cT).mono fun e w' k => ret_conv (fl := 16) (by rw [hR]) (by rw [hR]) rfl k
  · have hok : convOk k f m a = false := by unfold convOk; rw [decide_eq_false hk]; rfl
    refine (tointConvert_kind k f m a w (by omega)).mono fun e w' k => ret_conv (x := 0) (fl := 0) ?_ ?_ ?_ k
    · unfold convN; rw [hok]; rfl
    · unfold convN; rw [hok]; rfl
    · unfold convN; rw [hok]; rfl
end Go.Proofs.YtjgonofkklpgaaaDoor
