/- Part 43 of what is proved: Pa. -/
import Derived.Test.YtecdpjhifmlahaaGreatDoorHw7
import Derived.Test.YtecdpjhifmlahaaGreatDoorHw35
set_option linter.unusedSimpArgs false
set_option linter.unusedVariables false
set_option linter.unnecessarySimpa false
set_option maxRecDepth 100000
set_option maxHeartbeats 1600000
namespace Go.Proofs.YtecdpjhifmlahaaGreatDoor
def sumX (f m : Nat) (nx : Bool) (sx : Nat) (ex : Int) (ny : Bool) (sy : Nat) (ey : Int) : Nat × Nat :=
  if nx = ny then packB f m nx (sx * 2 ^ (ex - min ex ey).toNat + sy * 2 ^ (ey - min ex ey).toNat) (min ex ey) false
  else if sx * 2 ^ (ex - min ex ey).toNat = sy * 2 ^ (ey - min ex ey).toNat then (zeroN f (decide (m = 2)), 0)
  else if sy * 2 ^ (ey - min ex ey).toNat < sx * 2 ^ (ex - min ex ey).toNat then packB f m nx (sx * 2 ^ (ex - min ex ey).toNat - sy * 2 ^ (ey - min ex ey).toNat) (min ex ey) false
  else packB f m ny (sy * 2 ^ (ey - min ex ey).toNat - sx * 2 ^ (ex - min ex ey).toNat) (min ex ey) false
def addR (f m a b : Nat) : Nat × Nat :=
  if (nanB (clsN f a) || nanB (clsN f b)) = true then canonR f (clsN f a) (clsN f b)
  else if (infB (clsN f a) && infB (clsN f b) && !decide (clsN f a = clsN f b)) = true then (nanN f, 16)
  else if infB (clsN f a) = true then (a, 0)
  else if infB (clsN f b) = true then (b, 0)
  else if (zerB (clsN f a) && zerB (clsN f b)) = true then (if clsN f a = clsN f b then (a, 0) else (zeroN f (decide (m = 2)), 0))
  else if zerB (clsN f a) = true then (b, 0)
  else if zerB (clsN f b) = true then (a, 0)
  else sumX f m (belowN4 (clsN f a)) (sigN f a) (xpN f a) (belowN4 (clsN f b)) (sigN f b) (xpN f b)
theorem add_zero (f m a : Nat) (hf : f < 4) (hc : Fin0 f a ∨ clsN f a = 3 ∨ clsN f a = 4) : addR f m a (zeroN f (negN f a)) = (a, 0) := by
  obtain ⟨z1, z2⟩ := zero_parts f (negN f a) hf
  have hz : clsN f (zeroN f (negN f a)) = 3 ∨ clsN f (zeroN f (negN f a)) = 4 := by rw [z2]; cases negN f a <;> simp
  obtain ⟨b1, b2, b3⟩ := zer_flags f _ hz
  unfold addR
  rw [b1, b2, b3]
  rcases hc with hc | hc
  · obtain ⟨a1, a2, a3⟩ := fin_flags f a hc
    rw [a1, a2, a3]; simp
  · obtain ⟨a1, a2, a3⟩ := zer_flags f a hc
    have he : clsN f a = clsN f (zeroN f (negN f a)) := by
      rw [z2, ← below_neg f a (by omega)]; unfold belowN4; rcases hc with h | h <;> rw [h] <;> rfl
    rw [a1, a2, a3, if_pos he]; simp
end Go.Proofs.YtecdpjhifmlahaaGreatDoor
