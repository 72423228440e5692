/- Part 35 of what is proved: Pq. -/
import Derived.Test.YtecdpjhifmlahaaGreatDoorHw7
import Derived.Test.YtecdpjhifmlahaaGreatDoorHw34
set_option linter.unusedSimpArgs false
set_option linter.unusedVariables false
set_option linter.unnecessarySimpa false
set_option maxRecDepth 100000
set_option maxHeartbeats 1600000
namespace Go.Proofs.YtecdpjhifmlahaaGreatDoor
def isqF (n : Nat) : Nat → Nat
  | 0 => 0
  | k + 1 => if (k + 1) * (k + 1) ≤ n then k + 1 else isqF n k
def isq (n : Nat) : Nat := isqF n n
theorem isqF_le (n k : Nat) : isqF n k * isqF n k ≤ n := by
  induction k with
  | zero => simp [isqF]
  | succ k ih => unfold isqF; split <;> assumption
theorem isqF_gt (n k j : Nat) (h1 : isqF n k < j) (h2 : j ≤ k) : n < j * j := by
  induction k with
  | zero => omega
  | succ k ih =>
    unfold isqF at h1
    by_cases h : (k + 1) * (k + 1) ≤ n
    · rw [if_pos h] at h1; omega
    · rw [if_neg h] at h1
      by_cases hj : j = k + 1
      · rw [hj]; omega
      · exact ih h1 (by omega)
theorem isq_le (n : Nat) : isq n * isq n ≤ n := isqF_le n n
theorem isq_gt (n : Nat) : n < (isq n + 1) * (isq n + 1) := by
  by_cases h : isq n + 1 ≤ n
  · exact isqF_gt n n _ (Nat.lt_succ_self _) h
  · have : n < isq n + 1 := by omega
    exact Nat.lt_of_lt_of_le this (Nat.le_mul_of_pos_left _ (by omega))
theorem isq_unique (n r : Nat) (h1 : r * r ≤ n) (h2 : n < (r + 1) * (r + 1)) : isq n = r := by
  have a := isq_le n
  have b := isq_gt n
  rcases Nat.lt_trichotomy (isq n) r with h | h | h
  · have := Nat.mul_le_mul (show isq n + 1 ≤ r from h) (show isq n + 1 ≤ r from h); omega
  · exact h
  · have := Nat.mul_le_mul (show r + 1 ≤ isq n from h) (show r + 1 ≤ isq n from h); omega
theorem isq_sq (r : Nat) : isq (r * r) = r := isq_unique _ _ (Nat.le_refl _) (by rw [Nat.add_mul, Nat.mul_add]; omega)
end Go.Proofs.YtecdpjhifmlahaaGreatDoor
