/- The leading bit put into a number of words. -/
import Derived.Test.YtjgonofkklpgaaaDoorFld
namespace Go.Proofs.YtjgonofkklpgaaaDoor
open Go.RowKit

theorem limbN_addpow (t i s j : Nat) (ht : t < 2 ^ (64 * i + s)) (hs : s < 64) :
    limbN (t + 2 ^ (64 * i + s)) j = if j = i then limbN t i + 2 ^ s else limbN t j := by
  have hp : 2 ^ (64 * i + s) = 2 ^ s * 2 ^ (64 * i) := by rw [Nat.pow_add, Nat.mul_comm]
  have h64 : 2 ^ s < 18446744073709551616 := by rw [B64]; exact Nat.pow_lt_pow_right (by decide) hs
  rcases Nat.lt_trichotomy j i with h | h | h
  · rw [if_neg (by omega)]
    unfold limbN
    rw [hp, show 64 * i = 64 * j + (64 + 64 * (i - j - 1)) by omega, Nat.pow_add, Nat.pow_add 2 64, Nat.mul_left_comm, Nat.add_mul_div_left _ _ (pw_pos j), ← B64, Nat.mul_left_comm, Nat.add_mul_mod_self_left]
  · subst h
    rw [if_pos rfl]
    unfold limbN
    have hq : t / 2 ^ (64 * j) < 2 ^ s := by rw [Nat.div_lt_iff_lt_mul (pw_pos j), ← hp]; exact ht
    have hs2 : 2 ^ s + 2 ^ s ≤ 18446744073709551616 := by rw [← Nat.two_mul, Nat.mul_comm, ← Nat.pow_succ, B64]; exact Nat.pow_le_pow_right (by decide) hs
    rw [hp, Nat.mul_comm, Nat.add_mul_div_left _ _ (pw_pos j), Nat.mod_eq_of_lt (by omega : t / 2 ^ (64 * j) < _), Nat.mod_eq_of_lt (by omega)]
  · rw [if_neg (by omega)]
    have big : ∀ y, y < 2 ^ (64 * j) → limbN y j = 0 := fun y hy => by unfold limbN; rw [Nat.div_eq_of_lt hy]
    have hle : 2 ^ (64 * i + s) + 2 ^ (64 * i + s) ≤ 2 ^ (64 * j) := by
      rw [← Nat.two_mul, Nat.mul_comm, ← Nat.pow_succ]; exact Nat.pow_le_pow_right (by decide) (by omega)
    rw [big _ (by omega), big _ (by omega)]
theorem bits_or_top (x s : Nat) (hx : x < 2 ^ s) (hs : s < 64) : Go.bits .or .u64 (x : Int) (IntKind.u64.wrap (2 ^ s)) = ((x + 2 ^ s : Nat) : Int) := by
  have h64 : 2 ^ s < 18446744073709551616 := by rw [B64]; exact Nat.pow_lt_pow_right (by decide) hs
  rw [show (2 : Int) ^ s = ((2 ^ s : Nat) : Int) by simp, show IntKind.u64.wrap ((2 ^ s : Nat) : Int) = ((2 ^ s : Nat) : Int) by rw [IntKind.wrap_u64]; omega, u64_or_nat _ _ (by omega) h64]
  congr 1
  have := Nat.two_pow_add_eq_or_of_lt hx 1
  rw [Nat.mul_one] at this
  rw [Nat.or_comm, ← this, Nat.add_comm]
theorem limbs_top (t i s : Nat) (ht : t < 2 ^ (64 * i + s)) (hs : s < 64) (hi : i < 6) :
    (limbs t).setIfInBounds i (.int .u64 (Go.bits .or .u64 (limb t i) (IntKind.u64.wrap (2 ^ s)))) = limbs (t + 2 ^ (64 * i + s)) := by
  have hx : limbN t i < 2 ^ s := by
    unfold limbN
    refine Nat.lt_of_le_of_lt (Nat.mod_le _ _) ?_
    rw [Nat.div_lt_iff_lt_mul (pw_pos i), ← Nat.pow_add, Nat.add_comm]; exact ht
  have e : Go.bits .or .u64 (limb t i) (IntKind.u64.wrap (2 ^ s)) = ((limbN t i + 2 ^ s : Nat) : Int) := bits_or_top _ s hx hs
  rw [e]
  apply Array.ext_getElem?
  intro j
  by_cases hj : j < 6
  · rw [limbs_get _ j hj, Array.getElem?_setIfInBounds]
    unfold limb
    rw [limbN_addpow t i s j ht hs]
    by_cases h : i = j
    · subst h
      rw [if_pos rfl, if_pos (by rw [limbs_size]; exact hi), if_pos rfl]
    · rw [if_neg h, if_neg (by omega)]
      exact limbs_get t j hj
  · rw [Array.getElem?_eq_none (by rw [Array.size_setIfInBounds, limbs_size]; omega), Array.getElem?_eq_none (by rw [limbs_size]; omega)]
end Go.Proofs.YtjgonofkklpgaaaDoor
