/- Conversions into whole numbers, on plain numbers; the law of them. -/
import Derived.Test.YtjgonofkklpgaaaDoorPk2
namespace Go.Proofs.YtjgonofkklpgaaaDoor

def belowN4 (c : Nat) : Bool := decide (c < 4)
def wholeG (f m a : Nat) : Nat × Bool := gridN m (belowN4 (clsN f a)) (sigN f a) (xpN f a) false 0
def noFin (c : Nat) : Bool := decide (c = 0) || decide (7 ≤ c)
/-- The error of Whole. -/
def wholeE (f m a : Nat) : Int :=
  cond (fitsB f a && decide (m < 5)) (cond (noFin (clsN f a)) 80 (cond (decide (top6 ≤ (wholeG f m a).1)) 4 0)) 2
def wholeNeg (f m a : Nat) : Bool := decide (wholeE f m a = 0) && (belowN4 (clsN f a) && !decide ((wholeG f m a).1 = 0))
def wholeN (f m a : Nat) : Nat := cond (decide (wholeE f m a = 0)) (wholeG f m a).1 0
def wholeX (f m a : Nat) : Bool := decide (wholeE f m a = 0) && (wholeG f m a).2
/-- The answer of Convert: the word and the flags. -/
def convR (k f m a : Nat) : Nat × Nat :=
  if wholeE f m a = 0 then
    (if wholeNeg f m a = true ∧ lowK k < wholeN f m a then (toldN k true (lowK k), 16)
     else if wholeNeg f m a = false ∧ highK k < wholeN f m a then (toldN k false (highK k), 16)
     else (toldN k (wholeNeg f m a) (wholeN f m a % 18446744073709551616), cond (wholeX f m a) 0 1))
  else cond (belowN4 (clsN f a)) (toldN k true (lowK k), 16) (toldN k false (highK k), 16)
def convOk (k f m a : Nat) : Bool := decide (k < 4) && (fitsB f a && decide (m < 5))
def convN (k f m a : Nat) : Nat × Nat × Int := cond (convOk k f m a) ((convR k f m a).1, (convR k f m a).2, 0) (0, 0, 2)

theorem wholeG_exact (f m n a : Nat) (h : (wholeG f m a).2 = true) : wholeG f n a = wholeG f m a := by
  unfold wholeG gridN at *
  split
  · rfl
  · rename_i hlt
    rw [if_neg hlt] at h
    simp only [Bool.not_false, Bool.and_true] at h ⊢
    rw [h]
    simp [upB]
theorem wholeE_two (f m a : Nat) : wholeE f m a = 2 ↔ (fitsB f a && decide (m < 5)) = false := by
  unfold wholeE
  cases fitsB f a && decide (m < 5) <;> cases noFin (clsN f a) <;> cases decide (top6 ≤ (wholeG f m a).1) <;> simp

theorem sext32_lo (x : Nat) (h : x % 4294967296 < 2147483648) : sext32 x = x % 4294967296 := by unfold sext32; rw [decide_eq_true h]; rfl
theorem sext32_hi (x : Nat) (h : ¬ x % 4294967296 < 2147483648) : sext32 x = x % 4294967296 + 18446744069414584320 := by unfold sext32; rw [decide_eq_false h]; rfl
theorem told_lo (k : Nat) (neg : Bool) (n : Nat) (h : k < 2) : toldN k neg n = sext32 (neg64 neg n) := by unfold toldN; rw [decide_eq_true h]; rfl
theorem told_hi (k : Nat) (neg : Bool) (n : Nat) (h : ¬ k < 2) : toldN k neg n = neg64 neg n := by unfold toldN; rw [decide_eq_false h]; rfl
theorem neg64_t (n : Nat) : neg64 true n = (18446744073709551616 - n) % 18446744073709551616 := rfl
theorem neg64_f (n : Nat) : neg64 false n = n := rfl
theorem told_small (neg : Bool) (n : Nat) (h : (neg = true ∧ n ≤ 2147483648) ∨ (neg = false ∧ n ≤ 2147483647)) : toldN 0 neg n = toldN 2 neg n := by
  rw [told_lo 0 neg n (by decide), told_hi 2 neg n (by decide)]
  rcases h with ⟨rfl, h⟩ | ⟨rfl, h⟩
  · rw [neg64_t]
    by_cases h0 : n = 0
    · subst h0; rfl
    · rw [sext32_hi _ (by omega)]; omega
  · rw [neg64_f, sext32_lo _ (by omega)]; omega

/-- What is in the range of W is the same by L; nothing is raised but what the number itself raises. -/
theorem conv_W_L (f m a : Nat) (h : (convR 0 f m a).2 ≠ 16) : convR 0 f m a = convR 2 f m a := by
  unfold convR at *
  by_cases he : wholeE f m a = 0
  · rw [if_pos he] at h ⊢
    rw [if_pos he]
    by_cases h1 : wholeNeg f m a = true ∧ lowK 0 < wholeN f m a
    · rw [if_pos h1] at h; exact absurd rfl h
    · rw [if_neg h1] at h ⊢
      by_cases h2 : wholeNeg f m a = false ∧ highK 0 < wholeN f m a
      · rw [if_pos h2] at h; exact absurd rfl h
      · rw [if_neg h2]
        have hl : lowK 0 = 2147483648 ∧ highK 0 = 2147483647 ∧ lowK 2 = 9223372036854775808 ∧ highK 2 = 9223372036854775807 := ⟨rfl, rfl, rfl, rfl⟩
        obtain ⟨l1, l2, l3, l4⟩ := hl
        rw [l1] at h1
        rw [l2] at h2
        have hr : (wholeNeg f m a = true ∧ wholeN f m a ≤ 2147483648) ∨ (wholeNeg f m a = false ∧ wholeN f m a ≤ 2147483647) := by
          cases hn : wholeNeg f m a
          · right; exact ⟨rfl, by rcases Nat.lt_or_ge 2147483647 (wholeN f m a) with h | h; exact absurd ⟨hn, h⟩ h2; exact h⟩
          · left; exact ⟨rfl, by rcases Nat.lt_or_ge 2147483648 (wholeN f m a) with h | h; exact absurd ⟨hn, h⟩ h1; exact h⟩
        rw [if_neg (by rw [l3]; omega), if_neg (by rw [l4]; omega)]
        have hm : wholeN f m a % 18446744073709551616 = wholeN f m a := Nat.mod_eq_of_lt (by omega)
        rw [hm, told_small _ _ hr]
  · rw [if_neg he] at h
    exfalso; revert h; cases belowN4 (clsN f a) <;> simp
/-- What raises nothing is the same by any mode. -/
theorem conv_mode (k f m n a : Nat) (hn : n < 5) (h : (convR k f m a).2 = 0) (hm : (fitsB f a && decide (m < 5)) = true) : convR k f n a = convR k f m a := by
  have hfm : fitsB f a = true ∧ m < 5 := by simpa using hm
  have key : wholeE f m a = 0 ∧ wholeX f m a = true := by
    unfold convR at h
    by_cases he : wholeE f m a = 0
    · refine ⟨he, ?_⟩
      rw [if_pos he] at h
      split at h
      · simp at h
      · split at h
        · simp at h
        · revert h; cases wholeX f m a <;> simp
    · rw [if_neg he] at h
      exfalso; revert h; cases belowN4 (clsN f a) <;> simp
  obtain ⟨k1, k2⟩ := key
  have hx : (wholeG f m a).2 = true := by unfold wholeX at k2; revert k2; cases (wholeG f m a).2 <;> simp
  have hg := wholeG_exact f m n a hx
  have hE : wholeE f n a = wholeE f m a := by
    unfold wholeE; rw [hg, hfm.1, decide_eq_true hfm.2, decide_eq_true hn]
  have hN : wholeNeg f n a = wholeNeg f m a := by unfold wholeNeg; rw [hE, hg]
  have hV : wholeN f n a = wholeN f m a := by unfold wholeN; rw [hE, hg]
  have hX : wholeX f n a = wholeX f m a := by unfold wholeX; rw [hE, hg]
  unfold convR
  rw [hE, hN, hV, hX]
/-- What comes to 0 is 0, and of no sign. -/
theorem whole_zero (f m a : Nat) (he : wholeE f m a = 0) (h : wholeN f m a = 0) : wholeNeg f m a = false ∧ (convR 3 f m a).1 = 0 ∧ (convR 3 f m a).2 < 2 := by
  have hg : (wholeG f m a).1 = 0 := by unfold wholeN at h; rw [decide_eq_true he] at h; exact h
  have hn : wholeNeg f m a = false := by unfold wholeNeg; rw [hg]; simp
  refine ⟨hn, ?_, ?_⟩
  · unfold convR
    rw [if_pos he, hn, h, if_neg (by simp), if_neg (by simp [highK])]; rfl
  · unfold convR
    rw [if_pos he, hn, h, if_neg (by simp), if_neg (by simp [highK])]; cases wholeX f m a <;> decide
end Go.Proofs.YtjgonofkklpgaaaDoor
