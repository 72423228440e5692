/- Part 5 of the proof. -/
import Derived.Outline
import Derived.Deep.RegionWith
import Derived.Deep.RegionHeld3
import Derived.Deep.QuietTactic
import Derived.BigQuiet
import Derived.StillTailTactics
import Derived.Laws.AppendOwnNone
import Derived.OwnWalk
import Derived.Test.YtgmhmpflmgfcdaaGreatDoorHm1
import Derived.Test.YtgmhmpflmgfcdaaGreatDoorHm2
import Derived.Test.YtgmhmpflmgfcdaaGreatDoorHm3
import Derived.Test.YtgmhmpflmgfcdaaGreatDoorHm4
set_option linter.unusedSimpArgs false
set_option linter.unusedVariables false
set_option linter.unnecessarySimpa false
set_option maxRecDepth 100000
set_option maxHeartbeats 3200000
namespace Go.Proofs.YtgmhmpflmgfcdaaGreatDoor
theorem fields_mk (P K t e : Nat) (neg : Bool) (ht : t < 2 ^ P) (he : e < 2 ^ K) :
  (e * 2 ^ P + t + cond neg (2 ^ (P + K)) 0) % 2 ^ P = t ∧ (e * 2 ^ P + t + cond neg (2 ^ (P + K)) 0) / 2 ^ P % 2 ^ K = e ∧
  (e * 2 ^ P + t + cond neg (2 ^ (P + K)) 0).testBit (P + K) = neg ∧ e * 2 ^ P + t + cond neg (2 ^ (P + K)) 0 < 2 ^ (P + K + 1) := by
 have hp := two_pos P
 have hk := two_pos K
 have e1 : e * 2 ^ P + t + cond neg (2 ^ (P + K)) 0 = 2 ^ P * (e + cond neg 1 0 * 2 ^ K) + t := by
  rw [Nat.mul_add, Nat.mul_comm e, Nat.pow_add]; cases neg <;> simp <;> omega
 have hdiv : (2 ^ P * (e + cond neg 1 0 * 2 ^ K) + t) / 2 ^ P = e + cond neg 1 0 * 2 ^ K := by
  rw [Nat.mul_add_div hp, Nat.div_eq_of_lt ht, Nat.add_zero]
 have hlt : 2 ^ P * (e + cond neg 1 0 * 2 ^ K) + t < 2 ^ P * 2 ^ (K + 1) := by
  have : e + cond neg 1 0 * 2 ^ K + 1 ≤ 2 ^ (K + 1) := by rw [Nat.pow_succ]; cases neg <;> simp <;> omega
  have := Nat.mul_le_mul_left (2 ^ P) this
  rw [Nat.mul_add _ _ 1] at this; omega
 rw [e1]
 refine ⟨?_, ?_, ?_, ?_⟩
 ·rw [Nat.mul_add_mod]; exact Nat.mod_eq_of_lt ht
 ·rw [hdiv, Nat.add_mul_mod_self_right]; exact Nat.mod_eq_of_lt he
 ·rw [Nat.testBit_eq_decide_div_mod_eq, Nat.pow_add, ← Nat.div_div_eq_div_mul, hdiv, Nat.add_mul_div_right _ _ hk, Nat.div_eq_of_lt he]
  cases neg <;> rfl
 ·rw [Nat.add_assoc, Nat.pow_add]; exact hlt
theorem fields_of (P K b : Nat) (h : b < 2 ^ (P + K + 1)) : b / 2 ^ P % 2 ^ K * 2 ^ P + b % 2 ^ P + cond (b.testBit (P + K)) (2 ^ (P + K)) 0 = b := by
 have h1 := Nat.div_add_mod b (2 ^ P)
 have h2 := Nat.div_add_mod (b / 2 ^ P) (2 ^ K)
 have hq : b / 2 ^ P / 2 ^ K < 2 := by
  rw [Nat.div_div_eq_div_mul, ← Nat.pow_add, Nat.div_lt_iff_lt_mul (two_pos _)]
  rw [Nat.pow_succ] at h; omega
 rw [Nat.testBit_eq_decide_div_mod_eq, Nat.pow_add 2 P K, ← Nat.div_div_eq_div_mul]
 generalize b / 2 ^ P / 2 ^ K = q at *
 generalize b / 2 ^ P % 2 ^ K = e at *
 have : q = 0 ∨ q = 1 := by omega
 rcases this with rfl | rfl
 ·rw [Nat.mul_zero] at h2
  simp only [Nat.zero_mod, decide_false, cond, Nat.zero_ne_one]
  rw [← h2, Nat.mul_comm, Nat.zero_add] at h1; omega
 ·rw [Nat.mul_one] at h2
  rw [← h2, Nat.mul_add, Nat.mul_comm (2 ^ P) e] at h1
  simp; omega
theorem formK (f : Nat) (h : f < 4) : wF f = pF f - 1 + (wF f - pF f) + 1 ∧ wF f - 1 = pF f - 1 + (wF f - pF f) ∧ 2 ^ (wF f - pF f) = 2 * eF f + 2 ∧ 15 ≤ eF f ∧ eF f ≤ 16383 ∧ eminI f = 1 - (eF f : Int) ∧ 11 ≤ pF f ∧ pF f ≤ 113 := by
 have : f = 0 ∨ f = 1 ∨ f = 2 ∨ f = 3 := by omega
 rcases this with rfl | rfl | rfl | rfl <;> decide
theorem fits_iff (f b : Nat) : fitsB f b = true ↔ f < 4 ∧ b < 2 ^ wF f := by unfold fitsB; simp
def mkN (f : Nat) (neg : Bool) (e t : Nat) : Nat := e * 2 ^ (pF f - 1) + t + signN f neg
theorem mkN_fields (f : Nat) (hf : f < 4) (neg : Bool) (e t : Nat) (ht : t < 2 ^ (pF f - 1)) (he : e < 2 * eF f + 2) :
  mkN f neg e t % 2 ^ (pF f - 1) = t ∧ expN f (mkN f neg e t) = e ∧ (mkN f neg e t).testBit (wF f - 1) = neg ∧ fitsB f (mkN f neg e t) = true := by
 obtain ⟨h1, h2, h3, -⟩ := formK f hf
 have := fields_mk (pF f - 1) (wF f - pF f) t e neg ht (by rw [h3]; exact he)
 rw [← h2] at this
 unfold expN
 refine ⟨this.1, this.2.1, this.2.2.1, (fits_iff _ _).2 ⟨hf, ?_⟩⟩
 have h4 := this.2.2.2
 rw [h2, ← h1] at h4
 unfold mkN signN
 rw [h2]; exact h4
theorem mkN_of (f b : Nat) (h : fitsB f b = true) : mkN f (b.testBit (wF f - 1)) (expN f b) (b % 2 ^ (pF f - 1)) = b := by
 obtain ⟨hf, hb⟩ := (fits_iff f b).1 h
 obtain ⟨h1, h2, -⟩ := formK f hf
 have := fields_of (pF f - 1) (wF f - pF f) b (by rw [← h1]; exact hb)
 unfold mkN expN signN
 rw [h2]; exact this
theorem expN_lt (f b : Nat) (hf : f < 4) : expN f b < 2 * eF f + 2 := by
 obtain ⟨-, -, h3, -⟩ := formK f hf
 rw [← h3]; exact Nat.mod_lt _ (two_pos _)
def sigN (f b : Nat) : Nat := if clsN f b = 1 ∨ clsN f b = 6 then b % 2 ^ (pF f - 1) + 2 ^ (pF f - 1) else if clsN f b = 2 ∨ clsN f b = 5 then b % 2 ^ (pF f - 1) else 0
def xpN (f b : Nat) : Int := if clsN f b = 1 ∨ clsN f b = 6 then (expN f b : Int) - 1 + eminI f - (pF f : Nat) + 1 else if clsN f b = 2 ∨ clsN f b = 5 then (expN f b : Int) + eminI f - (pF f : Nat) + 1 else 0
def frN (f b : Nat) : Nat := if 8 ≤ clsN f b then b % 2 ^ (pF f - 1) else 0
def negN (f b : Nat) : Bool := b.testBit (wF f - 1)
theorem cls_cases (f b : Nat) :
  (expN f b = 2 * eF f + 1 ∧ b % 2 ^ (pF f - 1) = 0 ∧ clsN f b = cond (negN f b) 0 7) ∨
  (expN f b = 2 * eF f + 1 ∧ b % 2 ^ (pF f - 1) ≠ 0 ∧ clsN f b = cond ((b % 2 ^ (pF f - 1)).testBit (pF f - 2)) 9 8) ∨
  (expN f b = 0 ∧ b % 2 ^ (pF f - 1) = 0 ∧ clsN f b = cond (negN f b) 3 4) ∨
  (expN f b = 0 ∧ b % 2 ^ (pF f - 1) ≠ 0 ∧ clsN f b = cond (negN f b) 2 5) ∨
  (expN f b ≠ 0 ∧ expN f b ≠ 2 * eF f + 1 ∧ clsN f b = cond (negN f b) 1 6) := by
 unfold clsN negN
 by_cases h1 : expN f b = 2 * eF f + 1
 ·by_cases h2 : b % 2 ^ (pF f - 1) = 0
  ·left; rw [if_pos h1, if_pos h2]; exact ⟨h1, h2, rfl⟩
  ·right; left; rw [if_pos h1, if_neg h2]; exact ⟨h1, h2, rfl⟩
 ·by_cases h3 : expN f b = 0
  ·by_cases h2 : b % 2 ^ (pF f - 1) = 0
   ·right; right; left; rw [if_neg h1, if_pos h3, if_pos h2]; exact ⟨h3, h2, rfl⟩
   ·right; right; right; left; rw [if_neg h1, if_pos h3, if_neg h2]; exact ⟨h3, h2, rfl⟩
  ·right; right; right; right; rw [if_neg h1, if_neg h3]; exact ⟨h3, h1, rfl⟩
theorem cls_le (f b : Nat) : clsN f b ≤ 9 := by
 rcases cls_cases f b with ⟨_, _, h⟩ | ⟨_, _, h⟩ | ⟨_, _, h⟩ | ⟨_, _, h⟩ | ⟨_, _, h⟩ <;> rw [h]
 ·cases negN f b <;> decide
 ·cases (b % 2 ^ (pF f - 1)).testBit (pF f - 2) <;> decide
 ·cases negN f b <;> decide
 ·cases negN f b <;> decide
 ·cases negN f b <;> decide
structure Can (f c : Nat) (q : Int) : Prop where
 pos : c ≠ 0
 lt : c < 2 ^ pF f
 ge : eminI f - pF f + 1 ≤ q
 le : q ≤ (eF f : Int) - pF f + 1
 norm : 2 ^ (pF f - 1) ≤ c ∨ q = eminI f - pF f + 1
def Fin0 (f b : Nat) : Prop := clsN f b = 1 ∨ clsN f b = 6 ∨ clsN f b = 2 ∨ clsN f b = 5
theorem pow_pred (f : Nat) (hf : f < 4) : 2 ^ pF f = 2 ^ (pF f - 1) + 2 ^ (pF f - 1) := by
 obtain ⟨-, -, -, -, -, -, h, -⟩ := formK f hf
 rw [show pF f = (pF f - 1) + 1 by omega, Nat.pow_succ]; simp; omega
theorem can_of (f b : Nat) (h : fitsB f b = true) (hc : Fin0 f b) : Can f (sigN f b) (xpN f b) ∧ encN f (negN f b) (sigN f b) (xpN f b) = b := by
 obtain ⟨hf, hb⟩ := (fits_iff f b).1 h
 obtain ⟨h1, h2, h3, h4, h5, h6, h7, h8⟩ := formK f hf
 have hp := pow_pred f hf
 have ht := Nat.mod_lt b (two_pos (pF f - 1))
 have hm := mkN_of f b h
 have hx := expN_lt f b hf
 unfold Fin0 at hc
 rcases cls_cases f b with ⟨e1, e2, e3⟩ | ⟨e1, e2, e3⟩ | ⟨e1, e2, e3⟩ | ⟨e1, e2, e3⟩ | ⟨e1, e2, e3⟩
 ·exfalso; rw [e3] at hc; revert hc; cases negN f b <;> decide
 ·exfalso; rw [e3] at hc; revert hc; cases (b % 2 ^ (pF f - 1)).testBit (pF f - 2) <;> decide
 ·exfalso; rw [e3] at hc; revert hc; cases negN f b <;> decide
 ·have c1 : ¬ (clsN f b = 1 ∨ clsN f b = 6) := by rw [e3]; cases negN f b <;> decide
  have c2 : clsN f b = 2 ∨ clsN f b = 5 := by rw [e3]; cases negN f b <;> decide
  unfold sigN xpN
  rw [if_neg c1, if_pos c2, if_neg c1, if_pos c2, e1]
  refine ⟨⟨e2, by omega, by omega, by omega, Or.inr (by omega)⟩, ?_⟩
  unfold mkN at hm
  unfold encN negN
  rw [e1, Nat.zero_mul, Nat.zero_add] at hm
  rw [show (((0 : Nat) : Int) + eminI f - (pF f : Nat) + 1 - eminI f + (pF f : Nat) - 1).toNat = 0 by omega, Nat.zero_mul, Nat.zero_add]
  exact hm
 ·have c1 : clsN f b = 1 ∨ clsN f b = 6 := by rw [e3]; cases negN f b <;> decide
  unfold sigN xpN
  rw [if_pos c1, if_pos c1]
  refine ⟨⟨by have := two_pos (pF f - 1); omega, by omega, by omega, by omega, Or.inl (by omega)⟩, ?_⟩
  unfold mkN at hm
  unfold encN negN
  rw [show ((expN f b : Int) - 1 + eminI f - (pF f : Nat) + 1 - eminI f + (pF f : Nat) - 1).toNat = expN f b - 1 by omega]
  have e4 : expN f b * 2 ^ (pF f - 1) = (expN f b - 1) * 2 ^ (pF f - 1) + 2 ^ (pF f - 1) := by
   obtain ⟨k, hk⟩ : ∃ k, expN f b = k + 1 := ⟨expN f b - 1, by omega⟩
   rw [hk, Nat.add_sub_cancel, Nat.add_mul]; omega
  omega
theorem pack_can (f m c : Nat) (q : Int) (neg : Bool) (hf : f < 4) (h : Can f c q) : packB f m neg c q false = (encN f neg c q, 0) := by
 obtain ⟨h1, h2, h3, h4, h5, h6, h7, h8⟩ := formK f hf
 have hlt := h.lt
 have hge := h.ge
 have hle := h.le
 have hpos := h.pos
 have l1 := (lenN_le c (pF f)).2 hlt
 have l2 := lenN_pos c hpos
 have hat : atN f (lenN c - 1 + q) = q := by
  unfold atN
  rcases h.norm with hn | hn
  ·have : lenN c = pF f := lenN_unique c (pF f) hn hlt (by omega)
   omega
  ·rcases Nat.lt_or_ge c (2 ^ (pF f - 1)) with hc | hc
   ·have := (lenN_le c (pF f - 1)).2 hc
    omega
   ·have : lenN c = pF f := lenN_unique c (pF f) hc hlt (by omega)
    omega
 have hg : gridN m neg c q false q = (c, true) := by
  unfold gridN
  rw [if_pos (by omega), show (q - q).toNat = 0 by omega, Nat.pow_zero, Nat.mul_one]; rfl
 unfold packB
 rw [hat, hg, if_neg (by omega), if_neg (by simp only []; omega)]
 rfl
theorem pack_exact (f m c s : Nat) (q e : Int) (neg : Bool) (hf : f < 4) (h : Can f c q) (hs : (e ≤ q ∧ s = c * 2 ^ (q - e).toNat) ∨ (q ≤ e ∧ c = s * 2 ^ (e - q).toNat)) :
  packB f m neg s e false = (encN f neg c q, 0) := by
 rw [← pack_can f m c q neg hf h]
 rcases hs with ⟨hle, rfl⟩ | ⟨hle, hs⟩
 ·symm
  exact pack_finer ⟨hle, by rw [Nat.mul_div_cancel _ (two_pos _)], by rw [Nat.mul_mod_left]; rfl⟩ f m neg h.pos (fun h => by cases h)
 ·have hpos := h.pos
  refine pack_finer ⟨hle, by rw [hs, Nat.mul_div_cancel _ (two_pos _)], by rw [hs, Nat.mul_mod_left]; rfl⟩ f m neg ?_ (fun h => by cases h)
  intro h0; rw [h0, Nat.zero_mul] at hs; exact hpos hs
open Go.RowKit
theorem limb0 (b : Nat) : limb b 0 = ((b % 18446744073709551616 : Nat) : Int) := by unfold limb limbN; rw [Nat.mul_zero, Nat.pow_zero, Nat.div_one]
theorem limb1 (b : Nat) : limb b 1 = ((b / 18446744073709551616 % 18446744073709551616 : Nat) : Int) := rfl
theorem pair_bits {a b : Int} {n : Nat} (h1 : a = limb n 1) (h0 : b = limb n 0) : Ending.returned (.agg #[.int .u64 a, .int .u64 b]) = .returned (BV n) := by rw [h1, h0]
theorem wrap_shl (x n : Nat) : IntKind.u64.wrap ((x : Int) * 2 ^ n) = ((x * 2 ^ n % 18446744073709551616 : Nat) : Int) := by
 rw [IntKind.wrap_u64, show (2 : Int) ^ n = ((2 ^ n : Nat) : Int) by simp]; omega
theorem at_hi (x d : Nat) : Ending.returned (.agg #[.int .u64 (IntKind.u64.wrap ((x : Int) * 2 ^ d)), .int .u64 0]) = .returned (BV (x * 2 ^ (d + 64))) := by
 have e : x * 2 ^ (d + 64) = x * 2 ^ d * 18446744073709551616 := by rw [Nat.pow_add, Nat.mul_assoc]
 refine pair_bits ?_ ?_
 ·rw [limb1, e, wrap_shl, Nat.mul_div_cancel _ (by decide)]
 ·rw [limb0, e, Nat.mul_mod_left]; rfl
theorem at_zero (x : Nat) (hx : x < 18446744073709551616) : Ending.returned (.agg #[.int .u64 0, .int .u64 (IntKind.u64.wrap (x : Int))]) = .returned (BV (x * 2 ^ 0)) := by
 rw [Nat.pow_zero, Nat.mul_one]
 exact pair_bits (by rw [limb1, Nat.div_eq_of_lt hx]; rfl) (by rw [limb0, Nat.mod_eq_of_lt hx, IntKind.wrap_u64]; omega)
theorem at_lo (x n d : Nat) (hx : x < 18446744073709551616) (hd : n + d = 64) : Ending.returned (.agg #[.int .u64 ((x : Int) / 2 ^ d), .int .u64 (IntKind.u64.wrap ((x : Int) * 2 ^ n))]) = .returned (BV (x * 2 ^ n)) := by
 have e : 18446744073709551616 = 2 ^ n * 2 ^ d := by rw [← Nat.pow_add, hd]
 refine pair_bits ?_ ?_
 ·rw [limb1]
  have h1 : x * 2 ^ n / 18446744073709551616 = x / 2 ^ d := by rw [e, Nat.mul_comm (2 ^ n), Nat.mul_div_mul_right _ _ (Nat.two_pow_pos n)]
  have h2 : x / 2 ^ d < 18446744073709551616 := Nat.lt_of_le_of_lt (Nat.div_le_self _ _) hx
  rw [h1, Nat.mod_eq_of_lt h2, show (2 : Int) ^ d = ((2 ^ d : Nat) : Int) by simp]; rfl
 ·rw [limb0, wrap_shl]
theorem shapeAt_hi (x d : Nat) (n : Nat) (w : World) (hn : n = d + 64) (hd : d < 64) :
  CR_ 157 #[.int .u64 x, .int .i64 n] w (BV (x * 2 ^ n)) := by
 have H := Own.start w
 subst hn
 have h1 : (64 : Int) ≤ (d : Int) + 64 := by omega
 have du : IntKind.u64.wrap (d : Int) = (d : Int) := by rw [IntKind.wrap_u64]; omega
 have dt : min (d : Int).toNat 64 = d := by omega
 rw [show ((d + 64 : Nat) : Int) = (d : Int) + 64 by omega]
 go_enter Tryz.func157, Tryz.ntmps157
 go_wp2_with (first
  | ((with_reducible refine g0_ rfl ?_); refine H.xb ?_; (intro g w H; simp only [Act.put, q1_, q2_, q3_]))
  | ((with_reducible refine g1_ rfl ?_); refine H.xa ?_; (intro g w H; simp only [Act.put, q1_, q2_, q3_]))
  | ((with_reducible refine g2_ rfl ?_); (first | refine H.xl ?_ | refine H.xm ?_); simp only [Act.put, q1_, q2_, q3_])
  | ((with_reducible refine g3_ rfl ?_); (first | refine H.xs ?_ | refine H.xt ?_); (intro w H; simp only [Act.put]))
  )
 refine bodyPost_ret (results_c rfl rfl (H.res rB v2_ v3_ (by rfl))) rfl ⟨?_, H.below⟩
 exact at_hi x d
theorem shapeAt_zero (x n : Nat) (w : World) (hn : n = 0) (hx : x < 18446744073709551616) :
  CR_ 157 #[.int .u64 x, .int .i64 n] w (BV (x * 2 ^ n)) := by
 have H := Own.start w
 subst hn
 have HX := Lib.hid hx
 clear hx
 go_enter Tryz.func157, Tryz.ntmps157
 go_wp2_with (first
  | ((with_reducible refine g0_ rfl ?_); refine H.xb ?_; (intro g w H; simp only [Act.put, q1_, q2_, q3_]))
  | ((with_reducible refine g1_ rfl ?_); refine H.xa ?_; (intro g w H; simp only [Act.put, q1_, q2_, q3_]))
  | ((with_reducible refine g2_ rfl ?_); (first | refine H.xl ?_ | refine H.xm ?_); simp only [Act.put, q1_, q2_, q3_])
  | ((with_reducible refine g3_ rfl ?_); (first | refine H.xs ?_ | refine H.xt ?_); (intro w H; simp only [Act.put]))
  )
 refine bodyPost_ret (results_c rfl rfl (H.res rB v2_ v3_ (by rfl))) rfl ⟨?_, H.below⟩
 exact at_zero x HX.out
theorem shapeAt_lo (x n d : Nat) (w : World) (hn : 0 < n) (h64 : n < 64) (hd : n + d = 64) (hx : x < 18446744073709551616) :
  CR_ 157 #[.int .u64 x, .int .i64 n] w (BV (x * 2 ^ n)) := by
 have H := Own.start w
 have h0 : (0 : Int) < (n : Int) := by omega
 have h1 : ¬ (64 : Int) ≤ (n : Int) := by omega
 have h2 : (n : Int) < 64 := by omega
 have du : IntKind.u64.wrap (n : Int) = (n : Int) := by rw [IntKind.wrap_u64]; omega
 have dt : min (n : Int).toNat 64 = n := by omega
 have dv : IntKind.i64.wrap (64 - (n : Int)) = (d : Int) := by rw [show (64 : Int) - n = d by omega]; exact IntWalk.i64_in _ (by omega)
 have dw : (64 : Int) - (n : Int) = (d : Int) := by omega
 have eu : IntKind.u64.wrap (d : Int) = (d : Int) := by rw [IntKind.wrap_u64]; omega
 have et : min (d : Int).toNat 64 = d := by omega
 have HX := Lib.hid hx
 have HD := Lib.hid hd
 clear hx hd hn h64
 go_enter Tryz.func157, Tryz.ntmps157
 go_wp2_with (first
  | ((with_reducible refine g0_ rfl ?_); refine H.xb ?_; (intro g w H; simp only [Act.put, q1_, q2_, q3_]))
  | ((with_reducible refine g1_ rfl ?_); refine H.xa ?_; (intro g w H; simp only [Act.put, q1_, q2_, q3_]))
  | ((with_reducible refine g2_ rfl ?_); (first | refine H.xl ?_ | refine H.xm ?_); simp only [Act.put, q1_, q2_, q3_])
  | ((with_reducible refine g3_ rfl ?_); (first | refine H.xs ?_ | refine H.xt ?_); (intro w H; simp only [Act.put]))
  )
 refine bodyPost_ret (results_c rfl rfl (H.res rB v2_ v3_ (by rfl))) rfl ⟨?_, H.below⟩
 exact at_lo x n d HX.out HD.out
theorem shapeAt_any (x n : Nat) (w : World) (hn : n < 128) (hx : x < 18446744073709551616) :
  CR_ 157 #[.int .u64 x, .int .i64 n] w (BV (x * 2 ^ n)) := by
 rcases Nat.lt_or_ge n 64 with h | h
 ·rcases Nat.eq_zero_or_pos n with h0 | h0
  ·exact shapeAt_zero x n w h0 hx
  ·exact shapeAt_lo x n (64 - n) w h0 h (by omega) hx
 ·exact shapeAt_hi x (n - 64) n w (by omega) (by omega)
theorem pair_zero : Ending.returned (.agg #[.int .u64 0, .int .u64 0]) = .returned (BV 0) := rfl
theorem form_small (f : Nat) (hf : f < 4) : (2 * eF f + 1) * 2 ^ (pF f - 1) < 2 ^ (wF f - 1) ∧ (4 * eF f + 3) * 2 ^ (pF f - 2) < 2 ^ (wF f - 1) ∧ 0 < (2 * eF f + 1) * 2 ^ (pF f - 1) ∧ wF f - 1 < 128 := by
 have : f = 0 ∨ f = 1 ∨ f = 2 ∨ f = 3 := by omega
 rcases this with rfl | rfl | rfl | rfl <;> decide
theorem shapeAt_one (n : Nat) (w : World) (hn : n < 128) :
  CR_ 157 #[.int .u64 1, .int .i64 n] w (BV (1 * 2 ^ n)) := shapeAt_any 1 n w hn (by decide)
theorem shapeWith_big (f b : Nat) (neg : Bool) (w : World) (hf : f < 256) (h4 : ¬ f < 4) :
  CR_ 158 #[.int .u8 f, BV b, .bool neg] w (BV 0) := by
 have H := Own.start w
 go_enter Tryz.func158, Tryz.ntmps158
 exact walk3
theorem pair_or (a b : Nat) : Ending.returned (.agg #[.int .u64 (Go.bits .or .u64 (limb a 1) (limb b 1)), .int .u64 (Go.bits .or .u64 (limb a 0) (limb b 0))]) = .returned (BV (a ||| b)) := by
 rw [limb_or, limb_or]
theorem shapeWith_neg (f b : Nat) (w : World) (hf : f < 256) (h4 : f < 4) :
  CR_ 158 #[.int .u8 f, BV b, .bool true] w (BV (b ||| signN f true)) := by
 have H := Own.start w
 have cW := fun w => shapeWidth_any f w hf
 have hn := (form_small f h4).2.2.2
 unfold signN
 obtain ⟨n, hn1⟩ : ∃ n, wF f - 1 = n := ⟨_, rfl⟩
 have hw : 1 ≤ wF f := by have := (formK f h4).1; omega
 rw [hn1] at hn ⊢
 have vn : IntKind.i64.wrap ((wF f : Int) - 1) = (n : Int) := by rw [show (wF f : Int) - 1 = (n : Int) by omega]; exact IntWalk.i64_in _ (by omega)
 have vm : (wF f : Int) - 1 = (n : Int) := by omega
 generalize wF f = k at *
 clear hn1
 rw [show (cond true (2 ^ n) 0 : Nat) = 1 * 2 ^ n by simp]
 go_enter Tryz.func158, Tryz.ntmps158
 exact walk3
theorem shapeWith_pos (f b : Nat) (w : World) (hf : f < 256) (h4 : f < 4) :
  CR_ 158 #[.int .u8 f, BV b, .bool false] w (BV (b ||| signN f false)) := by
 have H := Own.start w
 rw [show signN f false = 0 from rfl, Nat.or_zero]
 go_enter Tryz.func158, Tryz.ntmps158
 exact walk3
theorem shapeWith_any (f b : Nat) (neg : Bool) (w : World) (hf : f < 256) :
  CR_ 158 #[.int .u8 f, BV b, .bool neg] w (BV (cond (decide (f < 4)) (b ||| signN f neg) 0)) := by
 by_cases h4 : f < 4
 ·rw [decide_eq_true h4]
  cases neg
  ·exact shapeWith_pos f b w hf h4
  ·exact shapeWith_neg f b w hf h4
 ·rw [decide_eq_false h4]
  exact shapeWith_big f b neg w hf h4
theorem roundUp_any (m : Nat) (neg odd : Bool) (half : Int) (exact : Bool) (w : World) (hm : m < 256) (hh : half = -1 ∨ half = 0 ∨ half = 1) :
  Calls Tryz.prog 123 #[.int .u8 m, .bool neg, .bool odd, .int .i64 half, .bool exact] w fun e w' => e = .returned (.bool (upB m neg odd half exact)) ∧ w = w' := by
 cases exact
 ·have : m = 0 ∨ m = 1 ∨ m = 2 ∨ m = 3 ∨ m = 4 ∨ 5 ≤ m := by omega
  rcases this with rfl | rfl | rfl | rfl | rfl | h
  ·rcases hh with rfl | rfl | rfl <;>
   ·go_enter Tryz.func123, Tryz.ntmps123
    go_wp2
    go_ret
    exact ⟨ret_bool (by simp [upB]), rfl⟩
  ·go_enter Tryz.func123, Tryz.ntmps123
   go_wp2
   go_ret
   exact ⟨ret_bool (by simp [upB]), rfl⟩
  ·cases neg <;>
   ·go_enter Tryz.func123, Tryz.ntmps123
    go_wp2
    go_ret
    exact ⟨ret_bool (by simp [upB]), rfl⟩
  ·cases neg <;>
   ·go_enter Tryz.func123, Tryz.ntmps123
    go_wp2
    go_ret
    exact ⟨ret_bool (by simp [upB]), rfl⟩
  ·rcases hh with rfl | rfl | rfl <;>
   ·go_enter Tryz.func123, Tryz.ntmps123
    go_wp2
    go_ret
    exact ⟨ret_bool (by simp [upB]), rfl⟩
  ·rw [upB_big _ _ _ _ _ h]
   have h5 : (5 : Int) ≤ (m : Int) := by omega
   have e0 : ((m : Int) == 0) = false := by simp; omega
   have e2 : ((m : Int) == 2) = false := by simp; omega
   have e3 : ((m : Int) == 3) = false := by simp; omega
   have e4 : ((m : Int) == 4) = false := by simp; omega
   go_enter Tryz.func123, Tryz.ntmps123
   go_wp2
   go_ret
   exact ⟨rfl, rfl⟩
 ·go_enter Tryz.func123, Tryz.ntmps123
  go_wp2
  go_ret
  exact ⟨ret_bool (by simp [upB]), rfl⟩
theorem or_sign (f x : Nat) (neg : Bool) (h : x < 2 ^ (wF f - 1)) : x ||| signN f neg = x + signN f neg := by
 cases neg
 ·exact (Nat.or_zero x).trans (Nat.add_zero x).symm
 ·show x ||| 2 ^ (wF f - 1) = x + 2 ^ (wF f - 1)
  rw [Nat.or_comm, Nat.add_comm]
  have := Nat.two_pow_add_eq_or_of_lt h 1
  rw [Nat.mul_one] at this; exact this.symm
theorem wrap_nat (x : Int) (n : Nat) (h : x = n) (hn : n < 18446744073709551616) : IntKind.u64.wrap x = (n : Int) := by rw [h, IntKind.wrap_u64]; omega
theorem shapeField_any (f k : Nat) (w : World) (h4 : f < 4) (hk : k < 32768) :
  CR_ 159 #[.int .u8 f, .int .i64 k] w (BV (k * 2 ^ (pF f - 1))) := by
 have H := Own.start w
 have cP := fun w => shapePrecision_any f w (by omega)
 obtain ⟨-, -, -, -, -, -, h1, h2⟩ := formK f h4
 obtain ⟨n, hn⟩ : ∃ n, pF f - 1 = n := ⟨_, rfl⟩
 rw [hn]
 have vn : IntKind.i64.wrap ((pF f : Int) - 1) = (n : Int) := by rw [show (pF f : Int) - 1 = (n : Int) by omega]; exact IntWalk.i64_in _ (by omega)
 have vm : (pF f : Int) - 1 = (n : Int) := by omega
 have ve : IntKind.u64.wrap (k : Int) = (k : Int) := wrap_nat _ k rfl (by omega)
 generalize pF f = p at *
 clear hn
 go_enter Tryz.func159, Tryz.ntmps159
 exact walk3
theorem shapeNaN_no (f : Nat) (w : World) (hf : f < 256) (h4 : ¬ f < 4) :
  CR_ 76 #[.int .u8 f] w (BV (nanN f)) := by
 have H := Own.start w
 rw [show nanN f = 0 by unfold nanN; rw [decide_eq_false h4]; rfl]
 go_enter Tryz.func76, Tryz.ntmps76
 exact walk3
theorem shapeNaN_yes (f : Nat) (w : World) (hf : f < 256) (h4 : f < 4) :
  CR_ 76 #[.int .u8 f] w (BV (nanN f)) := by
 have H := Own.start w
 rw [show nanN f = (4 * eF f + 3) * 2 ^ (pF f - 2) by unfold nanN; rw [decide_eq_true h4]; rfl]
 have cP := fun w => shapePrecision_any f w hf
 have cE := fun w => shapeEmax_any f w hf
 obtain ⟨-, -, -, e1, e2, -, h1, h2⟩ := formK f h4
 obtain ⟨n, hn⟩ : ∃ n, pF f - 2 = n := ⟨_, rfl⟩
 rw [hn]
 have vn : IntKind.i64.wrap ((pF f : Int) - 2) = (n : Int) := by rw [show (pF f : Int) - 2 = (n : Int) by omega]; exact IntWalk.i64_in _ (by omega)
 have vm : (pF f : Int) - 2 = (n : Int) := by omega
 have ve : IntKind.u64.wrap (4 * (eF f : Int) + 3) = ((4 * eF f + 3 : Nat) : Int) := wrap_nat _ _ (by omega) (by omega)
 have e3 : (eF f : Int) ≤ 16383 := by omega
 generalize pF f = p at *
 generalize eF f = m at *
 have cA := fun w => shapeAt_any (4 * m + 3) n w (by omega) (by omega)
 rw [show ((4 * m + 3 : Nat) : Int) = 4 * (m : Int) + 3 by omega] at cA
 clear hn ve
 go_enter Tryz.func76, Tryz.ntmps76
 exact walk3
theorem shapeNaN_any (f : Nat) (w : World) (hf : f < 256) :
  CR_ 76 #[.int .u8 f] w (BV (nanN f)) := by
 by_cases h4 : f < 4
 ·exact shapeNaN_yes f w hf h4
 ·exact shapeNaN_no f w hf h4
theorem shapeInf_no (f : Nat) (neg : Bool) (w : World) (hf : f < 256) (h4 : ¬ f < 4) :
  CR_ 77 #[.int .u8 f, .bool neg] w (BV (infN f neg)) := by
 have H := Own.start w
 rw [show infN f neg = 0 by unfold infN; rw [decide_eq_false h4]; rfl]
 go_enter Tryz.func77, Tryz.ntmps77
 exact walk3
theorem shapeInf_yes (f : Nat) (neg : Bool) (w : World) (hf : f < 256) (h4 : f < 4) :
  CR_ 77 #[.int .u8 f, .bool neg] w (BV (infN f neg)) := by
 have H := Own.start w
 have cE := fun w => shapeEmax_any f w hf
 obtain ⟨-, -, -, e1, e2, -, h1, h2⟩ := formK f h4
 have sm := (form_small f h4).1
 have cF := fun w => shapeField_any f (2 * eF f + 1) w h4 (by omega)
 have cW := fun w => shapeWith_any f ((2 * eF f + 1) * 2 ^ (pF f - 1)) neg w hf
 rw [or_sign f _ neg (sm), decide_eq_true h4] at cW
 rw [show infN f neg = (2 * eF f + 1) * 2 ^ (pF f - 1) + signN f neg by unfold infN; rw [decide_eq_true h4]; rfl]
 rw [show ((2 * eF f + 1 : Nat) : Int) = 2 * (eF f : Int) + 1 by omega] at cF
 have e3 : (eF f : Int) ≤ 16383 := by omega
 generalize signN f neg = sg at *
 generalize 2 ^ (pF f - 1) = pw at *
 generalize eF f = m at *
 go_enter Tryz.func77, Tryz.ntmps77
 exact walk3
theorem shapeInf_any (f : Nat) (neg : Bool) (w : World) (hf : f < 256) :
  CR_ 77 #[.int .u8 f, .bool neg] w (BV (infN f neg)) := by
 by_cases h4 : f < 4
 ·exact shapeInf_yes f neg w hf h4
 ·exact shapeInf_no f neg w hf h4
theorem shapeOne_no (f : Nat) (neg : Bool) (w : World) (hf : f < 256) (h4 : ¬ f < 4) :
  CR_ 93 #[.int .u8 f, .bool neg] w (BV (oneN f neg)) := by
 have H := Own.start w
 rw [show oneN f neg = 0 by unfold oneN; rw [decide_eq_false h4]; rfl]
 go_enter Tryz.func93, Tryz.ntmps93
 exact walk3
theorem shapeOne_yes (f : Nat) (neg : Bool) (w : World) (hf : f < 256) (h4 : f < 4) :
  CR_ 93 #[.int .u8 f, .bool neg] w (BV (oneN f neg)) := by
 have H := Own.start w
 have cE := fun w => shapeEmax_any f w hf
 obtain ⟨-, -, -, e1, e2, -, h1, h2⟩ := formK f h4
 have sm := (form_small f h4).1
 have cF := fun w => shapeField_any f (eF f) w h4 (by omega)
 have cW := fun w => shapeWith_any f ((eF f) * 2 ^ (pF f - 1)) neg w hf
 rw [or_sign f _ neg (by have := Nat.mul_le_mul_right (2 ^ (pF f - 1)) (show eF f ≤ 2 * eF f + 1 by omega); omega), decide_eq_true h4] at cW
 rw [show oneN f neg = (eF f) * 2 ^ (pF f - 1) + signN f neg by unfold oneN; rw [decide_eq_true h4]; rfl]
 have e3 : (eF f : Int) ≤ 16383 := by omega
 generalize signN f neg = sg at *
 generalize 2 ^ (pF f - 1) = pw at *
 generalize eF f = m at *
 go_enter Tryz.func93, Tryz.ntmps93
 exact walk3
theorem shapeOne_any (f : Nat) (neg : Bool) (w : World) (hf : f < 256) :
  CR_ 93 #[.int .u8 f, .bool neg] w (BV (oneN f neg)) := by
 by_cases h4 : f < 4
 ·exact shapeOne_yes f neg w hf h4
 ·exact shapeOne_no f neg w hf h4
theorem shapeZero_any (f : Nat) (neg : Bool) (w : World) (hf : f < 256) :
  CR_ 78 #[.int .u8 f, .bool neg] w (BV (zeroN f neg)) := by
 have H := Own.start w
 have cW : ∀ w, CR_ 158 #[.int .u8 f, .agg #[.int .u64 0, .int .u64 0], .bool neg] w (BV (zeroN f neg)) := by
  intro w
  have := shapeWith_any f 0 neg w hf
  rw [Nat.zero_or] at this
  exact this
 go_enter Tryz.func78, Tryz.ntmps78
 exact walk2
def belowN4 (c : Nat) : Bool := decide (c < 4)
theorem below_neg (f b : Nat) (h : ¬ 8 ≤ clsN f b) : belowN4 (clsN f b) = negN f b := by
 unfold belowN4
 rcases cls_cases f b with ⟨_, _, e3⟩ | ⟨_, _, e3⟩ | ⟨_, _, e3⟩ | ⟨_, _, e3⟩ | ⟨_, _, e3⟩
 ·rw [e3]; cases negN f b <;> rfl
 ·exfalso; rw [e3] at h; revert h; cases (b % 2 ^ (pF f - 1)).testBit (pF f - 2) <;> decide
 ·rw [e3]; cases negN f b <;> rfl
 ·rw [e3]; cases negN f b <;> rfl
 ·rw [e3]; cases negN f b <;> rfl
theorem fin_of (f b : Nat) (h8 : ¬ 8 ≤ clsN f b) (h07 : ¬ (clsN f b = 0 ∨ clsN f b = 7)) (h34 : ¬ (clsN f b = 3 ∨ clsN f b = 4)) : Fin0 f b := by
 have := cls_le f b
 unfold Fin0
 omega
theorem sig_zero (f b : Nat) (h : fitsB f b = true) (h8 : ¬ 8 ≤ clsN f b) (h07 : ¬ (clsN f b = 0 ∨ clsN f b = 7)) : sigN f b = 0 ↔ (clsN f b = 3 ∨ clsN f b = 4) := by
 constructor
 ·intro h0
  rcases Nat.lt_or_ge 0 1 with _ | _
  ·by_cases h34 : clsN f b = 3 ∨ clsN f b = 4
   ·exact h34
   ·exact absurd h0 (can_of f b h (fin_of f b h8 h07 h34)).1.pos
  ·omega
 ·rintro (h | h) <;> (unfold sigN; rw [h]; rfl)
theorem infN_mk (f : Nat) (neg : Bool) (hf : f < 4) : infN f neg = mkN f neg (2 * eF f + 1) 0 := by unfold infN mkN; rw [decide_eq_true hf]; rfl
theorem zeroN_mk (f : Nat) (neg : Bool) (hf : f < 4) : zeroN f neg = mkN f neg 0 0 := by unfold zeroN mkN; rw [decide_eq_true hf, Nat.zero_mul]; simp
theorem zero_parts (f : Nat) (neg : Bool) (hf : f < 4) : fitsB f (zeroN f neg) = true ∧ clsN f (zeroN f neg) = cond neg 3 4 := by
 rw [zeroN_mk f neg hf]
 obtain ⟨m1, m2, m3, m4⟩ := mkN_fields f hf neg 0 0 (two_pos _) (by omega)
 refine ⟨m4, ?_⟩
 rcases cls_cases f (mkN f neg 0 0) with ⟨e1, e2, e3⟩ | ⟨e1, e2, e3⟩ | ⟨e1, e2, e3⟩ | ⟨e1, e2, e3⟩ | ⟨e1, e2, e3⟩
 ·omega
 ·omega
 ·rw [e3]; unfold negN; rw [m3]
 ·exact absurd m1 e2
 ·exact absurd m2 e1
theorem zero_of (f b : Nat) (h : fitsB f b = true) (hc : clsN f b = 3 ∨ clsN f b = 4) : zeroN f (negN f b) = b := by
 obtain ⟨hf, hb⟩ := (fits_iff f b).1 h
 rw [zeroN_mk f _ hf]
 have hm := mkN_of f b h
 rcases cls_cases f b with ⟨e1, e2, e3⟩ | ⟨e1, e2, e3⟩ | ⟨e1, e2, e3⟩ | ⟨e1, e2, e3⟩ | ⟨e1, e2, e3⟩
 ·exfalso; rw [e3] at hc; revert hc; cases negN f b <;> decide
 ·exfalso; rw [e3] at hc; revert hc; cases (b % 2 ^ (pF f - 1)).testBit (pF f - 2) <;> decide
 ·rw [e1, e2] at hm; exact hm
 ·exfalso; rw [e3] at hc; revert hc; cases negN f b <;> decide
 ·exfalso; rw [e3] at hc; revert hc; cases negN f b <;> decide
def nanB (c : Nat) : Bool := decide (8 ≤ c)
def infB (c : Nat) : Bool := decide (c = 0) || decide (c = 7)
def zerB (c : Nat) : Bool := decide (c = 3) || decide (c = 4)
def canonR (f c d : Nat) : Nat × Nat := (nanN f, cond (decide (c = 8) || decide (d = 8)) 16 0)
def mulR (f m a b : Nat) : Nat × Nat :=
 if (nanB (clsN f a) || nanB (clsN f b)) = true then canonR f (clsN f a) (clsN f b)
 else if (infB (clsN f a) && zerB (clsN f b) || infB (clsN f b) && zerB (clsN f a)) = true then (nanN f, 16)
 else if (infB (clsN f a) || infB (clsN f b)) = true then (infN f (belowN4 (clsN f a) != belowN4 (clsN f b)), 0)
 else if (zerB (clsN f a) || zerB (clsN f b)) = true then (zeroN f (belowN4 (clsN f a) != belowN4 (clsN f b)), 0)
 else packB f m (belowN4 (clsN f a) != belowN4 (clsN f b)) (sigN f a * sigN f b) (xpN f a + xpN f b) false
def binOk (f m a b : Nat) : Bool := decide (f < 4) && decide (m < 5) && (fitsB f a && fitsB f b)
def mulN (f m a b : Nat) : Nat × Nat × Int := cond (binOk f m a b) ((mulR f m a b).1, (mulR f m a b).2, 0) (0, 0, 2)
def flipN (f a : Nat) : Nat := cond (fitsB f a) (mkN f (!negN f a) (expN f a) (a % 2 ^ (pF f - 1))) 0
theorem enc_neg (f c : Nat) (q : Int) (neg : Bool) : encN f neg c q = encN f false c q + signN f neg := by unfold encN; cases neg <;> simp [signN]
theorem mk_neg (f : Nat) (neg : Bool) (e t : Nat) : mkN f neg e t = mkN f false e t + signN f neg := by unfold mkN; cases neg <;> simp [signN]
theorem of_sign (f a : Nat) (h : fitsB f a = true) (neg : Bool) : mkN f neg (expN f a) (a % 2 ^ (pF f - 1)) = cond (decide (neg = negN f a)) a (flipN f a) := by
 by_cases hn : neg = negN f a
 ·rw [decide_eq_true hn, hn]; exact mkN_of f a h
 ·rw [decide_eq_false hn]
  have : neg = !negN f a := by cases neg <;> cases hh : negN f a <;> simp_all
  unfold flipN; rw [h, this]; rfl
theorem fin_sign (f a : Nat) (h : fitsB f a = true) (hc : Fin0 f a) (neg : Bool) : encN f neg (sigN f a) (xpN f a) = mkN f neg (expN f a) (a % 2 ^ (pF f - 1)) := by
 have h1 := (can_of f a h hc).2
 have h2 := mkN_of f a h
 rw [enc_neg, mk_neg]
 rw [enc_neg] at h1
 unfold negN at h1
 rw [mk_neg] at h2
 omega
theorem cls_sort (f b : Nat) : 8 ≤ clsN f b ∨ (clsN f b = 0 ∨ clsN f b = 7) ∨ (clsN f b = 3 ∨ clsN f b = 4) ∨ Fin0 f b := by
 have := cls_le f b
 unfold Fin0; omega
theorem one_mk (f : Nat) (neg : Bool) (hf : f < 4) : oneN f neg = mkN f neg (eF f) 0 := by unfold oneN mkN; rw [decide_eq_true hf]; rfl
theorem one_parts (f : Nat) (neg : Bool) (hf : f < 4) : fitsB f (oneN f neg) = true ∧ clsN f (oneN f neg) = cond neg 1 6 ∧ sigN f (oneN f neg) = 2 ^ (pF f - 1) ∧ xpN f (oneN f neg) = 1 - (pF f : Int) := by
 rw [one_mk f neg hf]
 obtain ⟨h1, h2, h3, h4, h5, h6, h7, h8⟩ := formK f hf
 obtain ⟨m1, m2, m3, m4⟩ := mkN_fields f hf neg (eF f) 0 (two_pos _) (by omega)
 rcases cls_cases f (mkN f neg (eF f) 0) with ⟨e1, e2, e3⟩ | ⟨e1, e2, e3⟩ | ⟨e1, e2, e3⟩ | ⟨e1, e2, e3⟩ | ⟨e1, e2, e3⟩
 ·omega
 ·omega
 ·omega
 ·omega
 ·have hn : negN f (mkN f neg (eF f) 0) = neg := m3
  rw [hn] at e3
  have c1 : clsN f (mkN f neg (eF f) 0) = 1 ∨ clsN f (mkN f neg (eF f) 0) = 6 := by rw [e3]; cases neg <;> decide
  refine ⟨m4, e3, ?_, ?_⟩
  ·unfold sigN; rw [if_pos c1, m1, Nat.zero_add]
  ·unfold xpN; rw [if_pos c1, m2]; omega
theorem bne_false (b : Bool) : (b != false) = b := by cases b <;> rfl
theorem mul_one (f m a : Nat) (neg : Bool) (hf : f < 4) (h : fitsB f a = true) (h8 : ¬ 8 ≤ clsN f a) : mulR f m a (oneN f neg) = (cond neg (flipN f a) a, 0) := by
 obtain ⟨o1, o2, o3, o4⟩ := one_parts f neg hf
 have ho : belowN4 (clsN f (oneN f neg)) = neg := by rw [o2]; cases neg <;> rfl
 have hon : nanB (clsN f (oneN f neg)) = false ∧ infB (clsN f (oneN f neg)) = false ∧ zerB (clsN f (oneN f neg)) = false := by rw [o2]; cases neg <;> exact ⟨rfl, rfl, rfl⟩
 have hbn := below_neg f a h8
 have hbody : ∀ s : Bool, mkN f s (expN f a) (a % 2 ^ (pF f - 1)) = cond (decide (s = negN f a)) a (flipN f a) := of_sign f a h
 have hpick : mkN f (negN f a != neg) (expN f a) (a % 2 ^ (pF f - 1)) = cond neg (flipN f a) a := by
  rw [hbody]; cases neg <;> cases negN f a <;> rfl
 unfold mulR
 rw [hon.1, hon.2.1, hon.2.2, ho, hbn]
 rcases cls_sort f a with c | c | c | c
 ·exact absurd c h8
 ·have e1 : nanB (clsN f a) = false := by rcases c with c | c <;> rw [c] <;> rfl
  have e2 : infB (clsN f a) = true := by rcases c with c | c <;> rw [c] <;> rfl
  have e3 : zerB (clsN f a) = false := by rcases c with c | c <;> rw [c] <;> rfl
  rw [e1, e2, e3]
  simp only [Bool.or_self, Bool.false_eq_true, if_false, Bool.and_false, Bool.or_false, if_true]
  rw [infN_mk f _ hf]
  have hx : expN f a = 2 * eF f + 1 ∧ a % 2 ^ (pF f - 1) = 0 := by
   rcases cls_cases f a with ⟨e1, e2, e3⟩ | ⟨e1, e2, e3⟩ | ⟨e1, e2, e3⟩ | ⟨e1, e2, e3⟩ | ⟨e1, e2, e3⟩
   ·exact ⟨e1, e2⟩
   ·exfalso; rw [e3] at c; revert c; cases (a % 2 ^ (pF f - 1)).testBit (pF f - 2) <;> decide
   ·exfalso; rw [e3] at c; revert c; cases negN f a <;> decide
   ·exfalso; rw [e3] at c; revert c; cases negN f a <;> decide
   ·exfalso; rw [e3] at c; revert c; cases negN f a <;> decide
  rw [← hpick, hx.1, hx.2]
 ·have e1 : nanB (clsN f a) = false := by rcases c with c | c <;> rw [c] <;> rfl
  have e2 : infB (clsN f a) = false := by rcases c with c | c <;> rw [c] <;> rfl
  have e3 : zerB (clsN f a) = true := by rcases c with c | c <;> rw [c] <;> rfl
  rw [e1, e2, e3]
  simp only [Bool.or_self, Bool.false_eq_true, if_false, Bool.and_true, Bool.or_false, Bool.and_self, if_true]
  rw [zeroN_mk f _ hf]
  have hx : expN f a = 0 ∧ a % 2 ^ (pF f - 1) = 0 := by
   rcases cls_cases f a with ⟨e1, e2, e3⟩ | ⟨e1, e2, e3⟩ | ⟨e1, e2, e3⟩ | ⟨e1, e2, e3⟩ | ⟨e1, e2, e3⟩
   ·exfalso; rw [e3] at c; revert c; cases negN f a <;> decide
   ·exfalso; rw [e3] at c; revert c; cases (a % 2 ^ (pF f - 1)).testBit (pF f - 2) <;> decide
   ·exact ⟨e1, e2⟩
   ·exfalso; rw [e3] at c; revert c; cases negN f a <;> decide
   ·exfalso; rw [e3] at c; revert c; cases negN f a <;> decide
  rw [← hpick, hx.1, hx.2]
 ·have e1 : nanB (clsN f a) = false := by rcases c with c | c | c | c <;> rw [c] <;> rfl
  have e2 : infB (clsN f a) = false := by rcases c with c | c | c | c <;> rw [c] <;> rfl
  have e3 : zerB (clsN f a) = false := by rcases c with c | c | c | c <;> rw [c] <;> rfl
  rw [e1, e2, e3]
  simp only [Bool.or_self, Bool.false_eq_true, if_false, Bool.and_self]
  obtain ⟨hc, -⟩ := can_of f a h c
  rw [o3, o4]
  have h7 := (formK f hf).2.2.2.2.2.2.1
  rw [pack_exact f m (sigN f a) _ (xpN f a) _ _ hf hc (Or.inl ⟨by omega, by rw [show (xpN f a - (xpN f a + (1 - (pF f : Int)))).toNat = pF f - 1 by omega]⟩)]
  rw [fin_sign f a h c, hpick]
theorem int_eq_false (c k : Nat) (h : c ≠ k) : (((c : Nat) : Int) == ((k : Nat) : Int)) = false := by rw [beq_eq_false_iff_ne]; omega
theorem int_eq_dec (c k : Nat) : (((c : Nat) : Int) == ((k : Nat) : Int)) = decide (c = k) := by rw [Bool.eq_iff_iff, beq_iff_eq, decide_eq_true_iff]; omega
theorem int_eq_true (c k : Nat) (h : c = k) : (((c : Nat) : Int) == ((k : Nat) : Int)) = true := by rw [h, beq_self_eq_true]
theorem mul_nan (c s f : Nat) (x : Int) (w : World) :
  CR_ 173 #[PV c s x f] w (.bool (nanB c)) := by
 have H := Own.start w
 go_enter Tryz.func173, Tryz.ntmps173
 exact walk1
theorem mul_below (c s f : Nat) (x : Int) (w : World) :
  CR_ 172 #[PV c s x f] w (.bool (belowN4 c)) := by
 have H := Own.start w
 go_enter Tryz.func172, Tryz.ntmps172
 exact walk1
theorem mul_inf_t (c s f : Nat) (x : Int) (w : World) (hc : c = 0) :
  CR_ 175 #[PV c s x f] w (.bool (infB c)) := by
 have H := Own.start w
 have e1 : ((c : Int) == 0) = true := int_eq_true c 0 hc
 have HR := Lib.hid (show true = infB c by rw [hc]; rfl)
 clear hc
 go_enter Tryz.func175, Tryz.ntmps175
 exact walk1
theorem mul_inf_f (c s f : Nat) (x : Int) (w : World) (hc : c ≠ 0) :
  CR_ 175 #[PV c s x f] w (.bool (infB c)) := by
 have H := Own.start w
 have e1 : ((c : Int) == 0) = false := int_eq_false c 0 hc
 have HR := Lib.hid (show ∀ b : Bool, b = decide (c = 7) → b = infB c by intro b hb; unfold infB; rw [decide_eq_false hc]; exact hb)
 clear hc
 go_enter Tryz.func175, Tryz.ntmps175
 exact walk1
theorem mul_inf (c s f : Nat) (x : Int) (w : World) :
  CR_ 175 #[PV c s x f] w (.bool (infB c)) := by
 by_cases hc : c = 0
 ·exact mul_inf_t c s f x w hc
 ·exact mul_inf_f c s f x w hc
theorem mul_nought_t (c s f : Nat) (x : Int) (w : World) (hc : c = 3) :
  CR_ 176 #[PV c s x f] w (.bool (zerB c)) := by
 have H := Own.start w
 have e1 : ((c : Int) == 3) = true := int_eq_true c 3 hc
 have HR := Lib.hid (show true = zerB c by rw [hc]; rfl)
 clear hc
 go_enter Tryz.func176, Tryz.ntmps176
 exact walk1
theorem mul_nought_f (c s f : Nat) (x : Int) (w : World) (hc : c ≠ 3) :
  CR_ 176 #[PV c s x f] w (.bool (zerB c)) := by
 have H := Own.start w
 have e1 : ((c : Int) == 3) = false := int_eq_false c 3 hc
 have HR := Lib.hid (show ∀ b : Bool, b = decide (c = 4) → b = zerB c by intro b hb; unfold zerB; rw [decide_eq_false hc]; exact hb)
 clear hc
 go_enter Tryz.func176, Tryz.ntmps176
 exact walk1
theorem mul_nought (c s f : Nat) (x : Int) (w : World) :
  CR_ 176 #[PV c s x f] w (.bool (zerB c)) := by
 by_cases hc : c = 3
 ·exact mul_nought_t c s f x w hc
 ·exact mul_nought_f c s f x w hc
section
variable {P : Program} {w : World} {op : Oper} {a : Act} {Q : Exit → Act → World → Prop} {ops : Array Oper} {rest : List Oper}
theorem run_build {t : TypeId} {n : Nat} {z : Array Value} {fs : Array Field} {places : Array (Nat × Nat)} (R : IsRow P t n z) (hu : P.underlying t = some (.struct fs))
  (hp : (fs.mapM fun f => do pure (f.offset, ← sizeOf f.type) : Sem (Array (Nat × Nat))).run P w = .ok places w) (ps : Array (Nat × Value)) (cs : Array Value) (hf : Instr.fill (places[·]?) z ps.toList = some cs) :
  (Instr.build t ps).run P w = .ok (.agg cs) w := by
 have hz := run_zeroValue R.zero w
 unfold Instr.build
 simp only [Sem.run_bind, hz, Result.andThen_ok, run_underlying hu, hp, Value.cells, hf]
 rfl
theorem fill_step (place : Nat → Option (Nat × Nat)) (cells : Array Value) (i off size : Nat) (v : Value) (rest : List (Nat × Value)) (hp : place i = some (off, size)) (h1 : v.cells.size = size) (h2 : off + size ≤ cells.size) :
  Instr.fill place cells ((i, v) :: rest) = Instr.fill place (setRow cells off v.cells.toList) rest := by
 rw [Instr.fill]
 simp only [hp]
 rw [if_neg (by simp [h1]; omega), foldl_cells]
theorem wp_bld {t : TypeId} {ps : Array (Nat × Operand)} (hw : Region.wanted op (yielded ops a.tmps) = true) (ho : op.op = .build t ps) {vs : Array (Nat × Value)} (hvs : (ps.map fun (i, x) => (i, a.eval x)) = vs) {v : Value}
  (hv : ∀ w, (Instr.build t vs).run P w = .ok v w) (h : wpList P ops Q rest (a.put op.dst v) w) : wpList P ops Q (op :: rest) a w := by
 refine wp_wanted hw fun K hK => ?_
 subst hvs
 have hk := hK _ _ h
 unfold Oper.wp execOp
 simp only [ho, Sem.run_bind, hv, Result.andThen_ok]
 exact hk
theorem wp_bld2 {t : TypeId} {i j : Nat} {x y : Operand} (hw : Region.wanted op (yielded ops a.tmps) = true) (ho : op.op = .build t #[(i, x), (j, y)]) {u1 u2 : Value} (h1 : a.eval x = u1) (h2 : a.eval y = u2) {v : Value}
  (hv : ∀ w, (Instr.build t #[(i, u1), (j, u2)]).run P w = .ok v w) (h : wpList P ops Q rest (a.put op.dst v) w) : wpList P ops Q (op :: rest) a w :=
 wp_bld hw ho (by simp [h1, h2]) hv h
theorem wp_bld3 {t : TypeId} {i j k : Nat} {x y z : Operand} (hw : Region.wanted op (yielded ops a.tmps) = true) (ho : op.op = .build t #[(i, x), (j, y), (k, z)]) {u1 u2 u3 : Value} (h1 : a.eval x = u1) (h2 : a.eval y = u2) (h3 : a.eval z = u3) {v : Value}
  (hv : ∀ w, (Instr.build t #[(i, u1), (j, u2), (k, u3)]).run P w = .ok v w) (h : wpList P ops Q rest (a.put op.dst v) w) : wpList P ops Q (op :: rest) a w :=
 wp_bld hw ho (by simp [h1, h2, h3]) hv h
theorem wp_bld4 {t : TypeId} {i j k l : Nat} {x y z q : Operand} (hw : Region.wanted op (yielded ops a.tmps) = true) (ho : op.op = .build t #[(i, x), (j, y), (k, z), (l, q)]) {u1 u2 u3 u4 : Value} (h1 : a.eval x = u1) (h2 : a.eval y = u2) (h3 : a.eval z = u3) (h4 : a.eval q = u4) {v : Value}
  (hv : ∀ w, (Instr.build t #[(i, u1), (j, u2), (k, u3), (l, u4)]).run P w = .ok v w) (h : wpList P ops Q rest (a.put op.dst v) w) : wpList P ops Q (op :: rest) a w :=
 wp_bld hw ho (by simp [h1, h2, h3, h4]) hv h
end
def roughAt : Array (Nat × Nat) := #[(0, 1), (1, 6), (7, 1), (8, 1)]
theorem rough_0 (neg : Bool) (s : Nat) (e : Int) (mo neg' : Bool) (rest : List (Nat × Value)) : Instr.fill (roughAt[·]?) (rough neg s e mo) ((0, .bool neg') :: rest) = Instr.fill (roughAt[·]?) (rough neg' s e mo) rest := fill_step _ _ 0 0 1 _ _ rfl rfl (show 0 + 1 ≤ 9 by decide)
theorem rough_1 (neg : Bool) (s : Nat) (e : Int) (mo : Bool) (s' : Nat) (rest : List (Nat × Value)) : Instr.fill (roughAt[·]?) (rough neg s e mo) ((1, W s') :: rest) = Instr.fill (roughAt[·]?) (rough neg s' e mo) rest := fill_step _ _ 1 1 6 _ _ rfl rfl (show 1 + 6 ≤ 9 by decide)
theorem rough_2 (neg : Bool) (s : Nat) (e : Int) (mo : Bool) (e' : Int) (rest : List (Nat × Value)) : Instr.fill (roughAt[·]?) (rough neg s e mo) ((2, .int .i64 e') :: rest) = Instr.fill (roughAt[·]?) (rough neg s e' mo) rest := fill_step _ _ 2 7 1 _ _ rfl rfl (show 7 + 1 ≤ 9 by decide)
theorem places_rough (w : World) : ∃ fs, Tryz.prog.underlying 83 = some (.struct fs) ∧ (fs.mapM fun f => do pure (f.offset, ← sizeOf f.type) : Sem (Array (Nat × Nat))).run Tryz.prog w = .ok roughAt w := by
 refine ⟨_, Tryz.underlying83, ?_⟩
 unfold roughAt
 go_simp
theorem run_rough (w : World) (ps : Array (Nat × Value)) (cs : Array Value) (hf : Instr.fill (roughAt[·]?) (rough false 0 0 false) ps.toList = some cs) : (Instr.build 83 ps).run Tryz.prog w = .ok (.agg cs) w := by
 obtain ⟨fs, hu, hp⟩ := places_rough w
 exact run_build rR hu hp ps cs hf
theorem rough_nse (neg : Bool) (s : Nat) (e : Int) (w : World) : (Instr.build 83 #[(0, .bool neg), (1, W s), (2, .int .i64 e)]).run Tryz.prog w = .ok (RV neg s e false) w :=
 run_rough w _ _ (by show Instr.fill _ _ [_, _, _] = _; rw [rough_0, rough_1, rough_2]; rfl)
theorem limbN_addpow (t i s j : Nat) (ht : t < 2 ^ (64 * i + s)) (hs : s < 64) :
  limbN (t + 2 ^ (64 * i + s)) j = if j = i then limbN t i + 2 ^ s else limbN t j := by
 have hp : 2 ^ (64 * i + s) = 2 ^ s * 2 ^ (64 * i) := by rw [Nat.pow_add, Nat.mul_comm]
 have h64 : 2 ^ s < 18446744073709551616 := by rw [B64]; exact Nat.pow_lt_pow_right (by decide) hs
 rcases Nat.lt_trichotomy j i with h | h | h
 ·rw [if_neg (by omega)]
  unfold limbN
  rw [hp, show 64 * i = 64 * j + (64 + 64 * (i - j - 1)) by omega, Nat.pow_add, Nat.pow_add 2 64, Nat.mul_left_comm, Nat.add_mul_div_left _ _ (pw_pos j), ← B64, Nat.mul_left_comm, Nat.add_mul_mod_self_left]
 ·subst h
  rw [if_pos rfl]
  unfold limbN
  have hq : t / 2 ^ (64 * j) < 2 ^ s := by rw [Nat.div_lt_iff_lt_mul (pw_pos j), ← hp]; exact ht
  have hs2 : 2 ^ s + 2 ^ s ≤ 18446744073709551616 := by rw [← Nat.two_mul, Nat.mul_comm, ← Nat.pow_succ, B64]; exact Nat.pow_le_pow_right (by decide) hs
  rw [hp, Nat.mul_comm, Nat.add_mul_div_left _ _ (pw_pos j), Nat.mod_eq_of_lt (by omega : t / 2 ^ (64 * j) < _), Nat.mod_eq_of_lt (by omega)]
 ·rw [if_neg (by omega)]
  have big : ∀ y, y < 2 ^ (64 * j) → limbN y j = 0 := fun y hy => by unfold limbN; rw [Nat.div_eq_of_lt hy]
  have hle : 2 ^ (64 * i + s) + 2 ^ (64 * i + s) ≤ 2 ^ (64 * j) := by
   rw [← Nat.two_mul, Nat.mul_comm, ← Nat.pow_succ]; exact Nat.pow_le_pow_right (by decide) (by omega)
  rw [big _ (by omega), big _ (by omega)]
theorem bits_or_top (x s : Nat) (hx : x < 2 ^ s) (hs : s < 64) : Go.bits .or .u64 (x : Int) (IntKind.u64.wrap (2 ^ s)) = ((x + 2 ^ s : Nat) : Int) := by
 have h64 : 2 ^ s < 18446744073709551616 := by rw [B64]; exact Nat.pow_lt_pow_right (by decide) hs
 rw [show (2 : Int) ^ s = ((2 ^ s : Nat) : Int) by simp, show IntKind.u64.wrap ((2 ^ s : Nat) : Int) = ((2 ^ s : Nat) : Int) by rw [IntKind.wrap_u64]; omega, u64_or_nat _ _ (by omega) h64]
 congr 1
 have := Nat.two_pow_add_eq_or_of_lt hx 1
 rw [Nat.mul_one] at this
 rw [Nat.or_comm, ← this, Nat.add_comm]
theorem limbs_top (t i s : Nat) (ht : t < 2 ^ (64 * i + s)) (hs : s < 64) (hi : i < 6) :
  (limbs t).setIfInBounds i (.int .u64 (Go.bits .or .u64 (limb t i) (IntKind.u64.wrap (2 ^ s)))) = limbs (t + 2 ^ (64 * i + s)) := by
 have hx : limbN t i < 2 ^ s := by
  unfold limbN
  refine Nat.lt_of_le_of_lt (Nat.mod_le _ _) ?_
  rw [Nat.div_lt_iff_lt_mul (pw_pos i), ← Nat.pow_add, Nat.add_comm]; exact ht
 have e : Go.bits .or .u64 (limb t i) (IntKind.u64.wrap (2 ^ s)) = ((limbN t i + 2 ^ s : Nat) : Int) := bits_or_top _ s hx hs
 rw [e]
 apply Array.ext_getElem?
 intro j
 by_cases hj : j < 6
 ·rw [limbs_get _ j hj, Array.getElem?_setIfInBounds]
  unfold limb
  rw [limbN_addpow t i s j ht hs]
  by_cases h : i = j
  ·subst h
   rw [if_pos rfl, if_pos (by rw [limbs_size]; exact hi), if_pos rfl]
  ·rw [if_neg h, if_neg (by omega)]
   exact limbs_get t j hj
 ·rw [Array.getElem?_eq_none (by rw [Array.size_setIfInBounds, limbs_size]; omega), Array.getElem?_eq_none (by rw [limbs_size]; omega)]
def partsQ : Array (Nat × Nat) := #[(0, 1), (1, 6), (7, 1), (8, 6)]
theorem places_partsQ (w : World) : ∃ fs, Tryz.prog.underlying 100 = some (.struct fs) ∧ (fs.mapM fun f => do pure (f.offset, ← sizeOf f.type) : Sem (Array (Nat × Nat))).run Tryz.prog w = .ok partsQ w := by
 refine ⟨_, Tryz.underlying100, ?_⟩
 unfold partsQ
 go_simp
theorem partsQ_0 (c s : Nat) (x : Int) (f c' : Nat) (rest : List (Nat × Value)) : Instr.fill (partsQ[·]?) (parts c s x f) ((0, .int .u8 c') :: rest) = Instr.fill (partsQ[·]?) (parts c' s x f) rest := fill_step _ _ 0 0 1 _ _ rfl rfl (show 0 + 1 ≤ 14 by decide)
theorem partsQ_c (c : Nat) (w : World) : (Instr.build 100 #[(0, .int .u8 c)]).run Tryz.prog w = .ok (PV c 0 0 0) w := by
 obtain ⟨fs, hu, hp⟩ := places_partsQ w
 exact run_build rP hu hp _ _ (by show Instr.fill _ _ [_] = _; rw [partsQ_0]; rfl)
theorem wp_bldQ {P : Program} {op : Oper} {a : Act} {Q : Exit → Act → World → Prop} {ops : Array Oper} {rest : List Oper} {w : World} {t : TypeId} {i : Nat} {x : Operand} (hw : Region.wanted op (yielded ops a.tmps) = true) (ho : op.op = .build t #[(i, x)]) {u1 : Value} (h1 : a.eval x = u1) {v : Value}
  (hv : ∀ w, (Instr.build t #[(i, u1)]).run P w = .ok v w) (h : wpList P ops Q rest (a.put op.dst v) w) : wpList P ops Q (op :: rest) a w :=
 wp_bld hw ho (by simp [h1]) hv h
theorem set_pwQ (a b : Nat) (x : Int) (d c s : Nat) (y : Int) (f : Nat) : setRow (parts a b x d) 0 (parts c s y f).toList = parts c s y f := set_all _ _ rfl
theorem set_limbsQ (a b : Nat) : setRow (limbs a) 0 (limbs b).toList = limbs b := set_all _ _ rfl
theorem set_leadQ (t i s : Nat) (ht : t < 2 ^ (64 * i + s)) (hs : s < 64) (hi : i < 6) : setRow (limbs t) i (#[.int .u64 (Go.bits .or .u64 (limb t i) (IntKind.u64.wrap (2 ^ s)))] : Array Value).toList = limbs (t + 2 ^ (64 * i + s)) := limbs_top t i s ht hs hi
theorem kindUnpack_0 (f b e t p : Nat) (neg : Bool) (w : World) (hT : Tab w) (cT : CK_ 92 #[.int .u8 f, BV b] (.bool true)) (cP : CK_ 79 #[.int .u8 f] (.int .i64 (p : Nat))) (cF : CT_ 187 #[.int .u8 f, BV b] (.tuple #[.bool neg, .int .i64 (e : Nat), W t])) (cC : CT_ 124 #[.int .u8 f, BV b] (.int .u8 0))  :
  CR_ 120 #[.int .u8 f, BV b] w (.tuple #[PV 0 0 0 0, .int .i64 0]) := by
 have H := Own.start w
 have HT := Lib.hid hT
 clear hT
 go_enter Tryz.func120, Tryz.ntmps120
 exact walk1
theorem kindUnpack_3 (f b e t p : Nat) (neg : Bool) (w : World) (hT : Tab w) (cT : CK_ 92 #[.int .u8 f, BV b] (.bool true)) (cP : CK_ 79 #[.int .u8 f] (.int .i64 (p : Nat))) (cF : CT_ 187 #[.int .u8 f, BV b] (.tuple #[.bool neg, .int .i64 (e : Nat), W t])) (cC : CT_ 124 #[.int .u8 f, BV b] (.int .u8 3))  :
  CR_ 120 #[.int .u8 f, BV b] w (.tuple #[PV 3 0 0 0, .int .i64 0]) := by
 have H := Own.start w
 have HT := Lib.hid hT
 clear hT
 go_enter Tryz.func120, Tryz.ntmps120
 exact walk1
theorem kindUnpack_4 (f b e t p : Nat) (neg : Bool) (w : World) (hT : Tab w) (cT : CK_ 92 #[.int .u8 f, BV b] (.bool true)) (cP : CK_ 79 #[.int .u8 f] (.int .i64 (p : Nat))) (cF : CT_ 187 #[.int .u8 f, BV b] (.tuple #[.bool neg, .int .i64 (e : Nat), W t])) (cC : CT_ 124 #[.int .u8 f, BV b] (.int .u8 4))  :
  CR_ 120 #[.int .u8 f, BV b] w (.tuple #[PV 4 0 0 0, .int .i64 0]) := by
 have H := Own.start w
 have HT := Lib.hid hT
 clear hT
 go_enter Tryz.func120, Tryz.ntmps120
 exact walk1
theorem kindUnpack_7 (f b e t p : Nat) (neg : Bool) (w : World) (hT : Tab w) (cT : CK_ 92 #[.int .u8 f, BV b] (.bool true)) (cP : CK_ 79 #[.int .u8 f] (.int .i64 (p : Nat))) (cF : CT_ 187 #[.int .u8 f, BV b] (.tuple #[.bool neg, .int .i64 (e : Nat), W t])) (cC : CT_ 124 #[.int .u8 f, BV b] (.int .u8 7))  :
  CR_ 120 #[.int .u8 f, BV b] w (.tuple #[PV 7 0 0 0, .int .i64 0]) := by
 have H := Own.start w
 have HT := Lib.hid hT
 clear hT
 go_enter Tryz.func120, Tryz.ntmps120
 exact walk1
theorem kindUnpack_8 (f b e t p : Nat) (neg : Bool) (w : World) (hT : Tab w) (cT : CK_ 92 #[.int .u8 f, BV b] (.bool true)) (cP : CK_ 79 #[.int .u8 f] (.int .i64 (p : Nat))) (cF : CT_ 187 #[.int .u8 f, BV b] (.tuple #[.bool neg, .int .i64 (e : Nat), W t])) (cC : CT_ 124 #[.int .u8 f, BV b] (.int .u8 8))  :
  CR_ 120 #[.int .u8 f, BV b] w (.tuple #[PV 8 0 0 t, .int .i64 0]) := by
 have H := Own.start w
 have HT := Lib.hid hT
 clear hT
 go_enter Tryz.func120, Tryz.ntmps120
 exact walk1
theorem kindUnpack_9 (f b e t p : Nat) (neg : Bool) (w : World) (hT : Tab w) (cT : CK_ 92 #[.int .u8 f, BV b] (.bool true)) (cP : CK_ 79 #[.int .u8 f] (.int .i64 (p : Nat))) (cF : CT_ 187 #[.int .u8 f, BV b] (.tuple #[.bool neg, .int .i64 (e : Nat), W t])) (cC : CT_ 124 #[.int .u8 f, BV b] (.int .u8 9))  :
  CR_ 120 #[.int .u8 f, BV b] w (.tuple #[PV 9 0 0 t, .int .i64 0]) := by
 have H := Own.start w
 have HT := Lib.hid hT
 clear hT
 go_enter Tryz.func120, Tryz.ntmps120
 exact walk1
theorem kindUnpack_2 (f b e t p : Nat) (em : Int) (neg : Bool) (w : World) (hT : Tab w) (he : e ≤ 32767) (hp : p ≤ 113) (hm1 : -16382 ≤ em) (hm2 : em ≤ 0) (cM : CK_ 141 #[.int .u8 f] (.int .i64 em)) (cT : CK_ 92 #[.int .u8 f, BV b] (.bool true)) (cP : CK_ 79 #[.int .u8 f] (.int .i64 (p : Nat))) (cF : CT_ 187 #[.int .u8 f, BV b] (.tuple #[.bool neg, .int .i64 (e : Nat), W t])) (cC : CT_ 124 #[.int .u8 f, BV b] (.int .u8 2))  :
  CR_ 120 #[.int .u8 f, BV b] w (.tuple #[PV 2 t ((e : Int) + em - (p : Int) + 1) 0, .int .i64 0]) := by
 have H := Own.start w
 have HT := Lib.hid hT
 clear hT
 go_enter Tryz.func120, Tryz.ntmps120
 exact walk1
theorem kindUnpack_5 (f b e t p : Nat) (em : Int) (neg : Bool) (w : World) (hT : Tab w) (he : e ≤ 32767) (hp : p ≤ 113) (hm1 : -16382 ≤ em) (hm2 : em ≤ 0) (cM : CK_ 141 #[.int .u8 f] (.int .i64 em)) (cT : CK_ 92 #[.int .u8 f, BV b] (.bool true)) (cP : CK_ 79 #[.int .u8 f] (.int .i64 (p : Nat))) (cF : CT_ 187 #[.int .u8 f, BV b] (.tuple #[.bool neg, .int .i64 (e : Nat), W t])) (cC : CT_ 124 #[.int .u8 f, BV b] (.int .u8 5))  :
  CR_ 120 #[.int .u8 f, BV b] w (.tuple #[PV 5 t ((e : Int) + em - (p : Int) + 1) 0, .int .i64 0]) := by
 have H := Own.start w
 have HT := Lib.hid hT
 clear hT
 go_enter Tryz.func120, Tryz.ntmps120
 exact walk1
theorem kindUnpack_1_0 (f b e t p : Nat) (em : Int) (neg : Bool) (w : World) (hT : Tab w) (s : Nat) (he : e ≤ 32767) (he1 : 1 ≤ e) (hs64 : s < 64) (htq : t < 2 ^ (64 * 0 + s)) (hqi : ((p : Int) - 1) / 64 = 0) (hqs : ((p : Int) - 1) % 64 = (s : Int)) (hp1 : 11 ≤ p) (hp : p ≤ 113) (hm1 : -16382 ≤ em) (hm2 : em ≤ 0) (cM : CK_ 141 #[.int .u8 f] (.int .i64 em)) (cT : CK_ 92 #[.int .u8 f, BV b] (.bool true)) (cP : CK_ 79 #[.int .u8 f] (.int .i64 (p : Nat))) (cF : CT_ 187 #[.int .u8 f, BV b] (.tuple #[.bool neg, .int .i64 (e : Nat), W t])) (cC : CT_ 124 #[.int .u8 f, BV b] (.int .u8 1))  :
  CR_ 120 #[.int .u8 f, BV b] w (.tuple #[PV 1 (t + 2 ^ (64 * 0 + s)) ((e : Int) - 1 + em - (p : Int) + 1) 0, .int .i64 0]) := by
 have H := Own.start w
 have HT := Lib.hid hT
 clear hT
 have he1' : (1 : Int) ≤ (e : Int) := by omega
 have he2' : (e : Int) ≤ 32767 := by omega
 have hp2' : (p : Int) ≤ 113 := by omega
 have hp3' : (11 : Int) ≤ (p : Int) := by omega
 have HS := Lib.hid hs64
 have HTQ := Lib.hid htq
 have s64 : (s : Int) < 64 := by omega
 clear htq hs64
 go_enter Tryz.func120, Tryz.ntmps120
 exact walk1
theorem kindUnpack_6_0 (f b e t p : Nat) (em : Int) (neg : Bool) (w : World) (hT : Tab w) (s : Nat) (he : e ≤ 32767) (he1 : 1 ≤ e) (hs64 : s < 64) (htq : t < 2 ^ (64 * 0 + s)) (hqi : ((p : Int) - 1) / 64 = 0) (hqs : ((p : Int) - 1) % 64 = (s : Int)) (hp1 : 11 ≤ p) (hp : p ≤ 113) (hm1 : -16382 ≤ em) (hm2 : em ≤ 0) (cM : CK_ 141 #[.int .u8 f] (.int .i64 em)) (cT : CK_ 92 #[.int .u8 f, BV b] (.bool true)) (cP : CK_ 79 #[.int .u8 f] (.int .i64 (p : Nat))) (cF : CT_ 187 #[.int .u8 f, BV b] (.tuple #[.bool neg, .int .i64 (e : Nat), W t])) (cC : CT_ 124 #[.int .u8 f, BV b] (.int .u8 6))  :
  CR_ 120 #[.int .u8 f, BV b] w (.tuple #[PV 6 (t + 2 ^ (64 * 0 + s)) ((e : Int) - 1 + em - (p : Int) + 1) 0, .int .i64 0]) := by
 have H := Own.start w
 have HT := Lib.hid hT
 clear hT
 have he1' : (1 : Int) ≤ (e : Int) := by omega
 have he2' : (e : Int) ≤ 32767 := by omega
 have hp2' : (p : Int) ≤ 113 := by omega
 have hp3' : (11 : Int) ≤ (p : Int) := by omega
 have HS := Lib.hid hs64
 have HTQ := Lib.hid htq
 have s64 : (s : Int) < 64 := by omega
 clear htq hs64
 go_enter Tryz.func120, Tryz.ntmps120
 exact walk1
theorem kindUnpack_1_1 (f b e t p : Nat) (em : Int) (neg : Bool) (w : World) (hT : Tab w) (s : Nat) (he : e ≤ 32767) (he1 : 1 ≤ e) (hs64 : s < 64) (htq : t < 2 ^ (64 * 1 + s)) (hqi : ((p : Int) - 1) / 64 = 1) (hqs : ((p : Int) - 1) % 64 = (s : Int)) (hp1 : 11 ≤ p) (hp : p ≤ 113) (hm1 : -16382 ≤ em) (hm2 : em ≤ 0) (cM : CK_ 141 #[.int .u8 f] (.int .i64 em)) (cT : CK_ 92 #[.int .u8 f, BV b] (.bool true)) (cP : CK_ 79 #[.int .u8 f] (.int .i64 (p : Nat))) (cF : CT_ 187 #[.int .u8 f, BV b] (.tuple #[.bool neg, .int .i64 (e : Nat), W t])) (cC : CT_ 124 #[.int .u8 f, BV b] (.int .u8 1))  :
  CR_ 120 #[.int .u8 f, BV b] w (.tuple #[PV 1 (t + 2 ^ (64 * 1 + s)) ((e : Int) - 1 + em - (p : Int) + 1) 0, .int .i64 0]) := by
 have H := Own.start w
 have HT := Lib.hid hT
 clear hT
 have he1' : (1 : Int) ≤ (e : Int) := by omega
 have he2' : (e : Int) ≤ 32767 := by omega
 have hp2' : (p : Int) ≤ 113 := by omega
 have hp3' : (11 : Int) ≤ (p : Int) := by omega
 have HS := Lib.hid hs64
 have HTQ := Lib.hid htq
 have s64 : (s : Int) < 64 := by omega
 clear htq hs64
 go_enter Tryz.func120, Tryz.ntmps120
 exact walk2
theorem kindUnpack_6_1 (f b e t p : Nat) (em : Int) (neg : Bool) (w : World) (hT : Tab w) (s : Nat) (he : e ≤ 32767) (he1 : 1 ≤ e) (hs64 : s < 64) (htq : t < 2 ^ (64 * 1 + s)) (hqi : ((p : Int) - 1) / 64 = 1) (hqs : ((p : Int) - 1) % 64 = (s : Int)) (hp1 : 11 ≤ p) (hp : p ≤ 113) (hm1 : -16382 ≤ em) (hm2 : em ≤ 0) (cM : CK_ 141 #[.int .u8 f] (.int .i64 em)) (cT : CK_ 92 #[.int .u8 f, BV b] (.bool true)) (cP : CK_ 79 #[.int .u8 f] (.int .i64 (p : Nat))) (cF : CT_ 187 #[.int .u8 f, BV b] (.tuple #[.bool neg, .int .i64 (e : Nat), W t])) (cC : CT_ 124 #[.int .u8 f, BV b] (.int .u8 6))  :
  CR_ 120 #[.int .u8 f, BV b] w (.tuple #[PV 6 (t + 2 ^ (64 * 1 + s)) ((e : Int) - 1 + em - (p : Int) + 1) 0, .int .i64 0]) := by
 have H := Own.start w
 have HT := Lib.hid hT
 clear hT
 have he1' : (1 : Int) ≤ (e : Int) := by omega
 have he2' : (e : Int) ≤ 32767 := by omega
 have hp2' : (p : Int) ≤ 113 := by omega
 have hp3' : (11 : Int) ≤ (p : Int) := by omega
 have HS := Lib.hid hs64
 have HTQ := Lib.hid htq
 have s64 : (s : Int) < 64 := by omega
 clear htq hs64
 go_enter Tryz.func120, Tryz.ntmps120
 exact walk2
theorem ret_parts {c c' s s' f f' : Nat} {x x' : Int} {e : Ending} {P : Prop} (h1 : c = c') (h2 : s = s') (h3 : x = x') (h4 : f = f') (k : e = .returned (.tuple #[PV c s x f, .int .i64 0]) ∧ P) : e = .returned (.tuple #[PV c' s' x' f', .int .i64 0]) ∧ P := by
 subst h1 h2 h3 h4; exact k
theorem leadBit (f : Nat) (h : f < 4) : (((pF f : Int) - 1) / 64 = 0 ∧ ∃ s : Nat, s < 64 ∧ ((pF f : Int) - 1) % 64 = s ∧ pF f - 1 = 64 * 0 + s) ∨ (((pF f : Int) - 1) / 64 = 1 ∧ ∃ s : Nat, s < 64 ∧ ((pF f : Int) - 1) % 64 = s ∧ pF f - 1 = 64 * 1 + s) := by
 have : f = 0 ∨ f = 1 ∨ f = 2 ∨ f = 3 := by omega
 rcases this with rfl | rfl | rfl | rfl
 ·left; exact ⟨by decide, 23, by decide, by decide, rfl⟩
 ·left; exact ⟨by decide, 52, by decide, by decide, rfl⟩
 ·left; exact ⟨by decide, 10, by decide, by decide, rfl⟩
 ·right; exact ⟨by decide, 48, by decide, by decide, rfl⟩
theorem kindUnpack_yes (f b : Nat) (w : World) (h : fitsB f b = true) (hT : Tab w) :
  CR_ 120 #[.int .u8 f, BV b] w (.tuple #[PV (clsN f b) (sigN f b) (xpN f b) (frN f b), .int .i64 0]) := by
 obtain ⟨hf, hb0⟩ := (fits_iff f b).1 h
 obtain ⟨h1, h2, h3, h4, h5, h6, h7, h8⟩ := formK f hf
 have hb : b < 2 ^ (64 * 2) := Nat.lt_of_lt_of_le hb0 (Nat.pow_le_pow_right (by decide) (by have := (formB f hf).2.2.2.1; omega))
 have cT := fun w => shapeFits_any f b w hb
 rw [h] at cT
 have cP := fun w => shapePrecision_any f w (by omega)
 have cM := fun w => shapeEmin_any f w (by omega)
 have cF := fun w hT => kindFields_any f b w hf hb hT
 have cC := fun w hT => kindclass_any f b w hf hb hT
 have hx := expN_lt f b hf
 have ht := Nat.mod_lt b (two_pos (pF f - 1))
 rcases cls_cases f b with ⟨e1, e2, e3⟩ | ⟨e1, e2, e3⟩ | ⟨e1, e2, e3⟩ | ⟨e1, e2, e3⟩ | ⟨e1, e2, e3⟩
 ·cases hn : negN f b
  ·rw [hn] at e3
   simp only [e3, cond] at cC
   refine (kindUnpack_7 f b _ _ _ _ w hT cT cP cF cC).mono fun e w' k => ret_parts ?_ ?_ ?_ ?_ k
   ·rw [e3]; rfl
   ·unfold sigN; rw [e3]; rfl
   ·unfold xpN; rw [e3]; rfl
   ·unfold frN; rw [e3]; rfl
  ·rw [hn] at e3
   simp only [e3, cond] at cC
   refine (kindUnpack_0 f b _ _ _ _ w hT cT cP cF cC).mono fun e w' k => ret_parts ?_ ?_ ?_ ?_ k
   ·rw [e3]; rfl
   ·unfold sigN; rw [e3]; rfl
   ·unfold xpN; rw [e3]; rfl
   ·unfold frN; rw [e3]; rfl
 ·cases hn : (b % 2 ^ (pF f - 1)).testBit (pF f - 2)
  ·rw [hn] at e3
   simp only [e3, cond] at cC
   refine (kindUnpack_8 f b _ _ _ _ w hT cT cP cF cC).mono fun e w' k => ret_parts ?_ ?_ ?_ ?_ k
   ·rw [e3]; rfl
   ·unfold sigN; rw [e3]; rfl
   ·unfold xpN; rw [e3]; rfl
   ·unfold frN; rw [e3]; rfl
  ·rw [hn] at e3
   simp only [e3, cond] at cC
   refine (kindUnpack_9 f b _ _ _ _ w hT cT cP cF cC).mono fun e w' k => ret_parts ?_ ?_ ?_ ?_ k
   ·rw [e3]; rfl
   ·unfold sigN; rw [e3]; rfl
   ·unfold xpN; rw [e3]; rfl
   ·unfold frN; rw [e3]; rfl
 ·cases hn : negN f b
  ·rw [hn] at e3
   simp only [e3, cond] at cC
   refine (kindUnpack_4 f b _ _ _ _ w hT cT cP cF cC).mono fun e w' k => ret_parts ?_ ?_ ?_ ?_ k
   ·rw [e3]; rfl
   ·unfold sigN; rw [e3]; rfl
   ·unfold xpN; rw [e3]; rfl
   ·unfold frN; rw [e3]; rfl
  ·rw [hn] at e3
   simp only [e3, cond] at cC
   refine (kindUnpack_3 f b _ _ _ _ w hT cT cP cF cC).mono fun e w' k => ret_parts ?_ ?_ ?_ ?_ k
   ·rw [e3]; rfl
   ·unfold sigN; rw [e3]; rfl
   ·unfold xpN; rw [e3]; rfl
   ·unfold frN; rw [e3]; rfl
 ·cases hn : negN f b
  ·rw [hn] at e3
   simp only [e3, cond] at cC
   refine (kindUnpack_5 f b _ _ _ _ _ w hT (by omega) h8 (by omega) (by omega) cM cT cP cF cC).mono fun e w' k => ret_parts ?_ ?_ ?_ ?_ k
   ·rw [e3]; rfl
   ·unfold sigN; rw [e3]; rfl
   ·unfold xpN; rw [e3]; rfl
   ·unfold frN; rw [e3]; rfl
  ·rw [hn] at e3
   simp only [e3, cond] at cC
   refine (kindUnpack_2 f b _ _ _ _ _ w hT (by omega) h8 (by omega) (by omega) cM cT cP cF cC).mono fun e w' k => ret_parts ?_ ?_ ?_ ?_ k
   ·rw [e3]; rfl
   ·unfold sigN; rw [e3]; rfl
   ·unfold xpN; rw [e3]; rfl
   ·unfold frN; rw [e3]; rfl
 ·cases hn : negN f b
  ·rw [hn] at e3
   simp only [e3, cond] at cC
   rcases leadBit f hf with ⟨q1, s, q2, q3, q4⟩ | ⟨q1, s, q2, q3, q4⟩
   ·refine (kindUnpack_6_0 f b _ _ _ _ _ w hT s (by omega) (by omega) q2 (by rw [← q4]; exact ht) q1 q3 h7 h8 (by omega) (by omega) cM cT cP cF cC).mono fun e w' k => ret_parts ?_ ?_ ?_ ?_ k
    ·rw [e3]; rfl
    ·unfold sigN; rw [e3, ← q4]; rfl
    ·unfold xpN; rw [e3]; rfl
    ·unfold frN; rw [e3]; rfl
   ·refine (kindUnpack_6_1 f b _ _ _ _ _ w hT s (by omega) (by omega) q2 (by rw [← q4]; exact ht) q1 q3 h7 h8 (by omega) (by omega) cM cT cP cF cC).mono fun e w' k => ret_parts ?_ ?_ ?_ ?_ k
    ·rw [e3]; rfl
    ·unfold sigN; rw [e3, ← q4]; rfl
    ·unfold xpN; rw [e3]; rfl
    ·unfold frN; rw [e3]; rfl
  ·rw [hn] at e3
   simp only [e3, cond] at cC
   rcases leadBit f hf with ⟨q1, s, q2, q3, q4⟩ | ⟨q1, s, q2, q3, q4⟩
   ·refine (kindUnpack_1_0 f b _ _ _ _ _ w hT s (by omega) (by omega) q2 (by rw [← q4]; exact ht) q1 q3 h7 h8 (by omega) (by omega) cM cT cP cF cC).mono fun e w' k => ret_parts ?_ ?_ ?_ ?_ k
    ·rw [e3]; rfl
    ·unfold sigN; rw [e3, ← q4]; rfl
    ·unfold xpN; rw [e3]; rfl
    ·unfold frN; rw [e3]; rfl
   ·refine (kindUnpack_1_1 f b _ _ _ _ _ w hT s (by omega) (by omega) q2 (by rw [← q4]; exact ht) q1 q3 h7 h8 (by omega) (by omega) cM cT cP cF cC).mono fun e w' k => ret_parts ?_ ?_ ?_ ?_ k
    ·rw [e3]; rfl
    ·unfold sigN; rw [e3, ← q4]; rfl
    ·unfold xpN; rw [e3]; rfl
    ·unfold frN; rw [e3]; rfl
theorem kindUnpack_not (f b : Nat) (w : World) (hb : b < 2 ^ (64 * 2)) (h : fitsB f b = false) :
  CR_ 120 #[.int .u8 f, BV b] w (.tuple #[PV 0 0 0 0, .int .i64 2]) := by
 have cT := fun w => shapeFits_any f b w hb
 rw [h] at cT
 exact kindUnpack_no f b w cT
theorem limbs_mod6 (a : Nat) : limbs (a % 2 ^ (64 * 6)) = limbs a := by
 have := limbs_mod a
 unfold top6 at this
 exact this
theorem put_sum (a b k : Nat) (cb : Bool) (hk : k < 6) (h : cbit a b k = cb) : (limbs ((a + b) % 2 ^ (64 * k))).setIfInBounds k (.int .u64 (addW (limb a k) (limb b k) cb)) = limbs ((a + b) % 2 ^ (64 * (k + 1))) := by
 unfold limb
 rw [addW_nat, limbs_put _ _ k hk (Nat.mod_lt _ (pw_pos k)) (Nat.mod_lt _ (by decide)), sum_step, h]
theorem car_sum (a b k : Nat) (cb : Bool) (h : cbit a b k = cb) : cbit a b (k + 1) = carW (limb a k) (limb b k) cb := by
 unfold limb
 rw [carW_nat, cbit_step, h]
theorem wideAdd_any (a b : Nat) (w : World) :
  CR_ 104 #[W a, W b] w (.tuple #[W (a + b), .bool (cbit a b 6)]) := by
 have sa := limbs_size a
 have sb := limbs_size b
 go_enter Tryz.func104, Tryz.ntmps104
 go_wp2_with fail
 go_loopw [5, 7] (fun c i wr => ∃ (k : Nat) (cb : Bool), k ≤ 6 ∧ i = .int .i64 k ∧ c = .bool cb ∧ Hid (cbit a b k = cb) ∧
   Blk 60 wr w.heap.size (limbs a) ∧ Blk 60 wr (w.heap.size + 1) (limbs b) ∧
   Blk 60 wr (w.heap.size + 1 + 1) (limbs ((a + b) % 2 ^ (64 * k))) ∧ Below w.heap.size w wr) (fun _ i _ => 6 - (intOf i).toNat)
 case atStart =>
  refine ⟨0, false, by omega, rfl, rfl, cbit_zero a b, ((Blk.new w _).alloc _).alloc _, ?_, ?_, ((((Below.refl _ _).alloc (Nat.le_refl _) _).alloc (by simp) _).alloc (by simp <;> omega) _)⟩
  ·have := (Blk.new (T := 60) (w.alloc (.cells (limbs a) 60)) (limbs b)).alloc (.cells #[.int .u64 0, .int .u64 0, .int .u64 0, .int .u64 0, .int .u64 0, .int .u64 0] 60)
   simpa using this
  ·have := Blk.new (T := 60) ((w.alloc (.cells (limbs a) 60)).alloc (.cells (limbs b) 60)) #[.int .u64 0, .int .u64 0, .int .u64 0, .int .u64 0, .int .u64 0, .int .u64 0]
   rw [show (a + b) % 2 ^ (64 * 0) = 0 from Nat.mod_one _, limbs_zero]
   simpa using this
 case round =>
  obtain ⟨k, cb, hk, rfl, rfl, hc, ha, hb, hs, hbel⟩ := hrel
  by_cases hlt : k < 6
  ·have ca := ha.cell k (limbs_get a k hlt)
   have cb' := hb.cell k (limbs_get b k hlt)
   have cs := hs.cell k (limbs_get _ k hlt)
   have fs := hs.free k
   go_wp2_with fail
   go_region_with (go_at_call 181; refine (wordAdd_any _ _ _ _ (limb_w a k) (limb_w b k)).mono ?_; rintro e w' ⟨rfl, rfl⟩)
   all_goals go_wp2
   all_goals
    go_roundw
    case rel => exact ⟨k + 1, _, by omega, by go_num, rfl, car_sum a b k cb hc.out, (ha.other _ _ (by simp; omega)).drew, (hb.other _ _ (by simp)).drew, (hs.set k _ (put_sum a b k cb (by omega) hc.out)).drew, (hbel.setCell (by simp; omega) _).drew⟩
    case measure => simp [intOf]; omega
  ·have : k = 6 := by omega
   subst this
   rw [limbs_mod6] at hs
   have c0 := hs.cell 0 (limbs_get _ 0 (by decide))
   have c1 := hs.cell 1 (limbs_get _ 1 (by decide))
   have c2 := hs.cell 2 (limbs_get _ 2 (by decide))
   have c3 := hs.cell 3 (limbs_get _ 3 (by decide))
   have c4 := hs.cell 4 (limbs_get _ 4 (by decide))
   have c5 := hs.cell 5 (limbs_get _ 5 (by decide))
   have f0 := hs.free 0
   have f1 := hs.free 1
   have f2 := hs.free 2
   have f3 := hs.free 3
   have f4 := hs.free 4
   have f5 := hs.free 5
   clear ha hb hlt
   go_wp2_with fail
   rw [hs.keep 0 _ (limbs_get _ 0 (by decide)), hs.keep 1 _ (limbs_get _ 1 (by decide)), hs.keep 2 _ (limbs_get _ 2 (by decide)), hs.keep 3 _ (limbs_get _ 3 (by decide)), hs.keep 4 _ (limbs_get _ 4 (by decide)), hs.keep 5 _ (limbs_get _ 5 (by decide))]
   refine bodyPost_ret (v := .tuple #[W (a + b), .bool cb]) (by simp [results, Tryz.results104, go_sem, c0, c1, c2, c3, c4, c5, limbs]) rfl ⟨by rw [hc.out], hbel⟩
theorem set_limbs (a b : Nat) : setRow (limbs a) 0 (limbs b).toList = limbs b := set_all _ _ rfl
theorem wideOf_1 (w : World) : CR_ 47 #[.int .u64 1] w (W 1) := wideOf_any 1 w (by decide)
theorem roundGrid_up (m s k : Nat) (e at_ n : Int) (neg mo lo : Bool) (w : World) (hT : Tab w) (h1 : -2000000 ≤ e) (h2 : e ≤ 2000000) (h3 : -2000000 ≤ at_) (h4 : at_ ≤ 2000000) (hn : at_ - e = n) (hn0 : n ≤ 0) (cL : CK_ 101 #[W s, .int .i64 (-n)] (.tuple #[W k, .bool lo])) :
  CR_ 144 #[.int .u8 m, RV neg s e mo, .int .i64 at_] w (.tuple #[W k, .bool (!mo)]) := by
 have H := Own.start w
 have HT := Lib.hid hT
 clear hT
 go_enter Tryz.func144, Tryz.ntmps144
 exact walk3
theorem roundGrid_f_t (m s k : Nat) (e at_ n : Int) (half : Int) (neg ex : Bool) (w : World) (hT : Tab w) (h1 : -2000000 ≤ e) (h2 : e ≤ 2000000) (h3 : -2000000 ≤ at_) (h4 : at_ ≤ 2000000) (hn : at_ - e = n) (hn0 : 0 < n) (cC : CT_ 122 #[W s, .int .i64 n] (.tuple #[W k, .int .i64 half, .bool ex])) (cR : ∀ w, Calls Tryz.prog 123 #[.int .u8 m, .bool neg, .bool (Go.bits .and .u64 (limb k 0) 1 == 1), .int .i64 half, .bool ex] w fun e w' => e = .returned (.bool true) ∧ w = w') :
  CR_ 144 #[.int .u8 m, RV neg s e false, .int .i64 at_] w (.tuple #[W (k + 1), .bool ex]) := by
 have H := Own.start w
 have HT := Lib.hid hT
 clear hT
 have n0 : ¬ n ≤ 0 := by omega
 go_enter Tryz.func144, Tryz.ntmps144
 exact walk3
theorem roundGrid_f_f (m s k : Nat) (e at_ n : Int) (half : Int) (neg ex : Bool) (w : World) (hT : Tab w) (h1 : -2000000 ≤ e) (h2 : e ≤ 2000000) (h3 : -2000000 ≤ at_) (h4 : at_ ≤ 2000000) (hn : at_ - e = n) (hn0 : 0 < n) (cC : CT_ 122 #[W s, .int .i64 n] (.tuple #[W k, .int .i64 half, .bool ex])) (cR : ∀ w, Calls Tryz.prog 123 #[.int .u8 m, .bool neg, .bool (Go.bits .and .u64 (limb k 0) 1 == 1), .int .i64 half, .bool ex] w fun e w' => e = .returned (.bool false) ∧ w = w') :
  CR_ 144 #[.int .u8 m, RV neg s e false, .int .i64 at_] w (.tuple #[W k, .bool ex]) := by
 have H := Own.start w
 have HT := Lib.hid hT
 clear hT
 have n0 : ¬ n ≤ 0 := by omega
 go_enter Tryz.func144, Tryz.ntmps144
 exact walk3
theorem roundGrid_tz_t (m s k : Nat) (e at_ n : Int) (half : Int) (neg ex : Bool) (w : World) (hT : Tab w) (h1 : -2000000 ≤ e) (h2 : e ≤ 2000000) (h3 : -2000000 ≤ at_) (h4 : at_ ≤ 2000000) (hn : at_ - e = n) (hn0 : 0 < n) (hz : (half == 0) = true) (cC : CT_ 122 #[W s, .int .i64 n] (.tuple #[W k, .int .i64 half, .bool ex])) (cR : ∀ w, Calls Tryz.prog 123 #[.int .u8 m, .bool neg, .bool (Go.bits .and .u64 (limb k 0) 1 == 1), .int .i64 1, .bool false] w fun e w' => e = .returned (.bool true) ∧ w = w') :
  CR_ 144 #[.int .u8 m, RV neg s e true, .int .i64 at_] w (.tuple #[W (k + 1), .bool false]) := by
 have H := Own.start w
 have HT := Lib.hid hT
 clear hT
 have n0 : ¬ n ≤ 0 := by omega
 go_enter Tryz.func144, Tryz.ntmps144
 exact walk3
theorem roundGrid_tz_f (m s k : Nat) (e at_ n : Int) (half : Int) (neg ex : Bool) (w : World) (hT : Tab w) (h1 : -2000000 ≤ e) (h2 : e ≤ 2000000) (h3 : -2000000 ≤ at_) (h4 : at_ ≤ 2000000) (hn : at_ - e = n) (hn0 : 0 < n) (hz : (half == 0) = true) (cC : CT_ 122 #[W s, .int .i64 n] (.tuple #[W k, .int .i64 half, .bool ex])) (cR : ∀ w, Calls Tryz.prog 123 #[.int .u8 m, .bool neg, .bool (Go.bits .and .u64 (limb k 0) 1 == 1), .int .i64 1, .bool false] w fun e w' => e = .returned (.bool false) ∧ w = w') :
  CR_ 144 #[.int .u8 m, RV neg s e true, .int .i64 at_] w (.tuple #[W k, .bool false]) := by
 have H := Own.start w
 have HT := Lib.hid hT
 clear hT
 have n0 : ¬ n ≤ 0 := by omega
 go_enter Tryz.func144, Tryz.ntmps144
 exact walk3
theorem roundGrid_tn_t (m s k : Nat) (e at_ n : Int) (half : Int) (neg ex : Bool) (w : World) (hT : Tab w) (h1 : -2000000 ≤ e) (h2 : e ≤ 2000000) (h3 : -2000000 ≤ at_) (h4 : at_ ≤ 2000000) (hn : at_ - e = n) (hn0 : 0 < n) (hz : (half == 0) = false) (cC : CT_ 122 #[W s, .int .i64 n] (.tuple #[W k, .int .i64 half, .bool ex])) (cR : ∀ w, Calls Tryz.prog 123 #[.int .u8 m, .bool neg, .bool (Go.bits .and .u64 (limb k 0) 1 == 1), .int .i64 half, .bool false] w fun e w' => e = .returned (.bool true) ∧ w = w') :
  CR_ 144 #[.int .u8 m, RV neg s e true, .int .i64 at_] w (.tuple #[W (k + 1), .bool false]) := by
 have H := Own.start w
 have HT := Lib.hid hT
 clear hT
 have n0 : ¬ n ≤ 0 := by omega
 go_enter Tryz.func144, Tryz.ntmps144
 exact walk3
theorem roundGrid_tn_f (m s k : Nat) (e at_ n : Int) (half : Int) (neg ex : Bool) (w : World) (hT : Tab w) (h1 : -2000000 ≤ e) (h2 : e ≤ 2000000) (h3 : -2000000 ≤ at_) (h4 : at_ ≤ 2000000) (hn : at_ - e = n) (hn0 : 0 < n) (hz : (half == 0) = false) (cC : CT_ 122 #[W s, .int .i64 n] (.tuple #[W k, .int .i64 half, .bool ex])) (cR : ∀ w, Calls Tryz.prog 123 #[.int .u8 m, .bool neg, .bool (Go.bits .and .u64 (limb k 0) 1 == 1), .int .i64 half, .bool false] w fun e w' => e = .returned (.bool false) ∧ w = w') :
  CR_ 144 #[.int .u8 m, RV neg s e true, .int .i64 at_] w (.tuple #[W k, .bool false]) := by
 have H := Own.start w
 have HT := Lib.hid hT
 clear hT
 have n0 : ¬ n ≤ 0 := by omega
 go_enter Tryz.func144, Tryz.ntmps144
 exact walk3
theorem shapeGreatest_0 (neg : Bool) (w : World) :
  CR_ 202 #[.int .u8 0, .bool neg] w (BV (greatN 0 neg)) := by
 have H := Own.start w
 have cI : ∀ w, CR_ 77 #[.int .u8 0, .bool false] w (.agg #[.int .u64 0, .int .u64 2139095040]) := fun w => shapeInf_any 0 false w (by decide)
 have cW : ∀ w, CR_ 158 #[.int .u8 0, .agg #[.int .u64 0, .int .u64 2139095039], .bool neg] w (BV (greatN 0 neg)) := by
  intro w
  have := shapeWith_any 0 2139095039 neg w (by decide)
  rw [or_sign 0 2139095039 neg (by decide)] at this
  exact this
 have cC : ∀ w, Calls Tryz.prog 154 #[.int .u8 0] w fun e w' => e = .returned (.int .i64 0) ∧ w = w' := fun w => shapeCheck_any 0 w (by decide)
 have cN : ∀ w, CR_ 177 #[.int .u8 0] w (.int .i64 32) := fun w => shapeWidth_any 0 w (by decide)
 go_enter Tryz.func202, Tryz.ntmps202
 exact walk2
theorem shapeGreatest_1 (neg : Bool) (w : World) :
  CR_ 202 #[.int .u8 1, .bool neg] w (BV (greatN 1 neg)) := by
 have H := Own.start w
 have cI : ∀ w, CR_ 77 #[.int .u8 1, .bool false] w (.agg #[.int .u64 0, .int .u64 9218868437227405312]) := fun w => shapeInf_any 1 false w (by decide)
 have cW : ∀ w, CR_ 158 #[.int .u8 1, .agg #[.int .u64 0, .int .u64 9218868437227405311], .bool neg] w (BV (greatN 1 neg)) := by
  intro w
  have := shapeWith_any 1 9218868437227405311 neg w (by decide)
  rw [or_sign 1 9218868437227405311 neg (by decide)] at this
  exact this
 have cC : ∀ w, Calls Tryz.prog 154 #[.int .u8 1] w fun e w' => e = .returned (.int .i64 0) ∧ w = w' := fun w => shapeCheck_any 1 w (by decide)
 have cN : ∀ w, CR_ 177 #[.int .u8 1] w (.int .i64 64) := fun w => shapeWidth_any 1 w (by decide)
 go_enter Tryz.func202, Tryz.ntmps202
 exact walk2
theorem shapeGreatest_2 (neg : Bool) (w : World) :
  CR_ 202 #[.int .u8 2, .bool neg] w (BV (greatN 2 neg)) := by
 have H := Own.start w
 have cI : ∀ w, CR_ 77 #[.int .u8 2, .bool false] w (.agg #[.int .u64 0, .int .u64 31744]) := fun w => shapeInf_any 2 false w (by decide)
 have cW : ∀ w, CR_ 158 #[.int .u8 2, .agg #[.int .u64 0, .int .u64 31743], .bool neg] w (BV (greatN 2 neg)) := by
  intro w
  have := shapeWith_any 2 31743 neg w (by decide)
  rw [or_sign 2 31743 neg (by decide)] at this
  exact this
 have cC : ∀ w, Calls Tryz.prog 154 #[.int .u8 2] w fun e w' => e = .returned (.int .i64 0) ∧ w = w' := fun w => shapeCheck_any 2 w (by decide)
 have cN : ∀ w, CR_ 177 #[.int .u8 2] w (.int .i64 16) := fun w => shapeWidth_any 2 w (by decide)
 go_enter Tryz.func202, Tryz.ntmps202
 exact walk2
theorem shapeGreatest_3 (neg : Bool) (w : World) :
  CR_ 202 #[.int .u8 3, .bool neg] w (BV (greatN 3 neg)) := by
 have H := Own.start w
 have cI : ∀ w, CR_ 77 #[.int .u8 3, .bool false] w (.agg #[.int .u64 9223090561878065152, .int .u64 0]) := fun w => shapeInf_any 3 false w (by decide)
 have cW : ∀ w, CR_ 158 #[.int .u8 3, .agg #[.int .u64 9223090561878065151, .int .u64 (IntKind.u64.wrap (-1))], .bool neg] w (BV (greatN 3 neg)) := by
  intro w
  have := shapeWith_any 3 170135991163610696904058773219554885631 neg w (by decide)
  rw [or_sign 3 170135991163610696904058773219554885631 neg (by decide)] at this
  exact this
 have cC : ∀ w, Calls Tryz.prog 154 #[.int .u8 3] w fun e w' => e = .returned (.int .i64 0) ∧ w = w' := fun w => shapeCheck_any 3 w (by decide)
 have cN : ∀ w, CR_ 177 #[.int .u8 3] w (.int .i64 128) := fun w => shapeWidth_any 3 w (by decide)
 go_enter Tryz.func202, Tryz.ntmps202
 exact walk2
theorem shapeGreatest_no (f : Nat) (neg : Bool) (w : World) (hf : f < 256) (h4 : ¬ f < 4) :
  CR_ 202 #[.int .u8 f, .bool neg] w (BV (greatN f neg)) := by
 have H := Own.start w
 rw [show greatN f neg = 0 by unfold greatN; rw [decide_eq_false h4]; rfl]
 have cI : ∀ w, CR_ 77 #[.int .u8 f, .bool false] w (.agg #[.int .u64 0, .int .u64 0]) := by
  intro w
  have := shapeInf_any f false w hf
  rw [show infN f false = 0 by unfold infN; rw [decide_eq_false h4]; rfl] at this
  exact this
 go_enter Tryz.func202, Tryz.ntmps202
 go_wp2_with (first
  | ((with_reducible refine g0_ rfl ?_); refine H.xb ?_; (intro g w H; simp only [Act.put, q1_, q2_, q3_]))
  | ((with_reducible refine g1_ rfl ?_); refine H.xa ?_; (intro g w H; simp only [Act.put, q1_, q2_, q3_]))
  | ((with_reducible refine g2_ rfl ?_); (first | refine H.xl ?_ | refine H.xm ?_); simp only [Act.put, q1_, q2_, q3_])
  | ((with_reducible refine g3_ rfl ?_); (first | refine H.xs ?_ | refine H.xt ?_); (intro w H; simp only [Act.put]))
  | (go_at_call 77; (with_reducible refine H.kc (cI _) ?_; clear H; intro w H))
  )
 all_goals
  refine bodyPost_ret (results_c rfl rfl (H.res rB v2_ v3_ (by rfl))) rfl ⟨?_, H.below⟩
  exact rfl
theorem shapeGreatest_any (f : Nat) (neg : Bool) (w : World) (hf : f < 256) :
  CR_ 202 #[.int .u8 f, .bool neg] w (BV (greatN f neg)) := by
 rcases forms f with rfl | rfl | rfl | rfl | h
 ·exact shapeGreatest_0 neg w
 ·exact shapeGreatest_1 neg w
 ·exact shapeGreatest_2 neg w
 ·exact shapeGreatest_3 neg w
 ·exact shapeGreatest_no f neg w hf (by omega)
theorem roundRight_no (f m : Nat) (w : World) (hf : f < 256) (h4 : ¬ f < 4) :
  Calls Tryz.prog 140 #[.int .u8 f, .int .u8 m] w fun e w' => e = .returned (.bool false) ∧ w = w' := by
 go_enter Tryz.func140, Tryz.ntmps140
 go_wp2_with (first | (go_at_call 154; ((with_reducible refine (shapeCheck_any f _ hf).mono ?_); rw [decide_eq_false h4]; rintro e w' ⟨rfl, rfl⟩)))
 go_ret
 exact ⟨rfl, rfl⟩
theorem roundRight_yes (f m : Nat) (w : World) (hf : f < 256) (hm : m < 256) (h4 : f < 4) :
  Calls Tryz.prog 140 #[.int .u8 f, .int .u8 m] w fun e w' => e = .returned (.bool (decide (m < 5))) ∧ w = w' := by
 by_cases h5 : m < 5
 ·rw [decide_eq_true h5]
  go_enter Tryz.func140, Tryz.ntmps140
  go_wp2_with (first | (go_at_call 154; ((with_reducible refine (shapeCheck_any f _ hf).mono ?_); rw [decide_eq_true h4]; rintro e w' ⟨rfl, rfl⟩)) | (go_at_call 121; ((with_reducible refine (shapeCheckMode_any m _ hm).mono ?_); rw [decide_eq_true h5]; rintro e w' ⟨rfl, rfl⟩)))
  go_ret
  exact ⟨rfl, rfl⟩
 rw [decide_eq_false h5]
 go_enter Tryz.func140, Tryz.ntmps140
 go_wp2_with (first | (go_at_call 154; ((with_reducible refine (shapeCheck_any f _ hf).mono ?_); rw [decide_eq_true h4]; rintro e w' ⟨rfl, rfl⟩)) | (go_at_call 121; ((with_reducible refine (shapeCheckMode_any m _ hm).mono ?_); rw [decide_eq_false h5]; rintro e w' ⟨rfl, rfl⟩)))
 go_ret
 exact ⟨rfl, rfl⟩
theorem roundRight_any (f m : Nat) (w : World) (hf : f < 256) (hm : m < 256) :
  Calls Tryz.prog 140 #[.int .u8 f, .int .u8 m] w fun e w' => e = .returned (.bool (decide (f < 4) && decide (m < 5))) ∧ w = w' := by
 by_cases h4 : f < 4
 ·rw [decide_eq_true h4, Bool.true_and]; exact roundRight_yes f m w hf hm h4
 ·rw [decide_eq_false h4, Bool.false_and]; exact roundRight_no f m w hf h4
theorem roundOver_0 (f : Nat) (neg : Bool) (w : World) (hf : f < 256) (cR : ∀ w, Calls Tryz.prog 140 #[.int .u8 f, .int .u8 0] w fun e w' => e = .returned (.bool true) ∧ w = w') :
  CR_ 143 #[.int .u8 f, .int .u8 0, .bool neg] w (.tuple #[BV (infN f neg), .int .u8 5, .int .i64 0]) := by
 have H := Own.start w
 go_enter Tryz.func143, Tryz.ntmps143
 exact walk2
theorem roundOver_1 (f : Nat) (neg : Bool) (w : World) (hf : f < 256) (cR : ∀ w, Calls Tryz.prog 140 #[.int .u8 f, .int .u8 1] w fun e w' => e = .returned (.bool true) ∧ w = w') :
  CR_ 143 #[.int .u8 f, .int .u8 1, .bool neg] w (.tuple #[BV (greatN f neg), .int .u8 5, .int .i64 0]) := by
 have H := Own.start w
 go_enter Tryz.func143, Tryz.ntmps143
 exact walk2
theorem roundOver_2t (f : Nat) (w : World) (hf : f < 256) (cR : ∀ w, Calls Tryz.prog 140 #[.int .u8 f, .int .u8 2] w fun e w' => e = .returned (.bool true) ∧ w = w') :
  CR_ 143 #[.int .u8 f, .int .u8 2, .bool true] w (.tuple #[BV (infN f true), .int .u8 5, .int .i64 0]) := by
 have H := Own.start w
 go_enter Tryz.func143, Tryz.ntmps143
 exact walk2
theorem roundOver_2f (f : Nat) (w : World) (hf : f < 256) (cR : ∀ w, Calls Tryz.prog 140 #[.int .u8 f, .int .u8 2] w fun e w' => e = .returned (.bool true) ∧ w = w') :
  CR_ 143 #[.int .u8 f, .int .u8 2, .bool false] w (.tuple #[BV (greatN f false), .int .u8 5, .int .i64 0]) := by
 have H := Own.start w
 go_enter Tryz.func143, Tryz.ntmps143
 exact walk2
theorem roundOver_3t (f : Nat) (w : World) (hf : f < 256) (cR : ∀ w, Calls Tryz.prog 140 #[.int .u8 f, .int .u8 3] w fun e w' => e = .returned (.bool true) ∧ w = w') :
  CR_ 143 #[.int .u8 f, .int .u8 3, .bool true] w (.tuple #[BV (greatN f true), .int .u8 5, .int .i64 0]) := by
 have H := Own.start w
 go_enter Tryz.func143, Tryz.ntmps143
 exact walk2
theorem roundOver_3f (f : Nat) (w : World) (hf : f < 256) (cR : ∀ w, Calls Tryz.prog 140 #[.int .u8 f, .int .u8 3] w fun e w' => e = .returned (.bool true) ∧ w = w') :
  CR_ 143 #[.int .u8 f, .int .u8 3, .bool false] w (.tuple #[BV (infN f false), .int .u8 5, .int .i64 0]) := by
 have H := Own.start w
 go_enter Tryz.func143, Tryz.ntmps143
 exact walk2
theorem roundOver_4 (f : Nat) (neg : Bool) (w : World) (hf : f < 256) (cR : ∀ w, Calls Tryz.prog 140 #[.int .u8 f, .int .u8 4] w fun e w' => e = .returned (.bool true) ∧ w = w') :
  CR_ 143 #[.int .u8 f, .int .u8 4, .bool neg] w (.tuple #[BV (infN f neg), .int .u8 5, .int .i64 0]) := by
 have H := Own.start w
 go_enter Tryz.func143, Tryz.ntmps143
 exact walk2
theorem roundOver_any (f m : Nat) (neg : Bool) (w : World) (hf : f < 4) (hm : m < 5) :
  CR_ 143 #[.int .u8 f, .int .u8 m, .bool neg] w (.tuple #[BV (overN f m neg), .int .u8 5, .int .i64 0]) := by
 have cR := fun w => roundRight_any f m w (by omega) (by omega)
 rw [decide_eq_true hf, decide_eq_true hm] at cR
 have : m = 0 ∨ m = 1 ∨ m = 2 ∨ m = 3 ∨ m = 4 := by omega
 rcases this with rfl | rfl | rfl | rfl | rfl
 ·exact roundOver_0 f neg w (by omega) cR
 ·exact roundOver_1 f neg w (by omega) cR
 ·cases neg
  ·exact roundOver_2f f w (by omega) cR
  ·exact roundOver_2t f w (by omega) cR
 ·cases neg
  ·exact roundOver_3f f w (by omega) cR
  ·exact roundOver_3t f w (by omega) cR
 ·exact roundOver_4 f neg w (by omega) cR
theorem set_bits (a b c d : Value) : setRow #[a, b] 0 (#[c, d] : Array Value).toList = #[c, d] := set_all _ _ rfl
theorem roundTiny_ne (f m s p : Nat) (e top lo : Int) (neg mo : Bool) (w : World) (hT : Tab w) (hp : p ≤ 113) (l1 : -20000 ≤ lo) (l2 : lo ≤ 20000) (t1 : -1100000 ≤ top) (t2 : top ≤ 1100000) (hne : (top == lo - 1) = false) (cE : CK_ 141 #[.int .u8 f] (.int .i64 lo)) (cP : CK_ 79 #[.int .u8 f] (.int .i64 (p : Nat))) :
  CR_ 145 #[.int .u8 f, .int .u8 m, RV neg s e mo, .int .i64 top] w (.bool (decide (top < lo))) := by
 have H := Own.start w
 have HT := Lib.hid hT
 clear hT
 have hne2 : (top != lo - 1) = true := by rw [bne, hne]; rfl
 go_enter Tryz.func145, Tryz.ntmps145
 exact walk2
theorem roundTiny_eq (f m s p k lk : Nat) (e top lo at_ : Int) (neg mo ex : Bool) (w : World) (hT : Tab w) (hp : p ≤ 113) (l1 : -20000 ≤ lo) (l2 : lo ≤ 20000) (t1 : -1100000 ≤ top) (t2 : top ≤ 1100000) (heq : (top == lo - 1) = true) (ha : top - (p : Int) + 1 = at_) (cE : CK_ 141 #[.int .u8 f] (.int .i64 lo)) (cP : CK_ 79 #[.int .u8 f] (.int .i64 (p : Nat))) (cG : CT_ 144 #[.int .u8 m, RV neg s e mo, .int .i64 at_] (.tuple #[W k, .bool ex])) (cK : CK_ 80 #[W k] (.int .i64 (lk : Nat))) :
  CR_ 145 #[.int .u8 f, .int .u8 m, RV neg s e mo, .int .i64 top] w (.bool (decide (lk ≤ p))) := by
 have H := Own.start w
 have HT := Lib.hid hT
 clear hT
 have hne2 : (top != lo - 1) = false := by rw [bne, heq]; rfl
 go_enter Tryz.func145, Tryz.ntmps145
 exact walk2
theorem roundPack_right (f m s p : Nat) (e : Int) (neg mo : Bool) (w : World) (hp : p ≤ 113) (cP : CK_ 79 #[.int .u8 f] (.int .i64 (p : Nat))) (cR : ∀ w, Calls Tryz.prog 140 #[.int .u8 f, .int .u8 m] w fun e w' => e = .returned (.bool false) ∧ w = w') :
  CR_ 61 #[.int .u8 f, .int .u8 m, RV neg s e mo] w (.tuple #[BV 0, .int .u8 0, .int .i64 2]) := by
 have H := Own.start w
 go_enter Tryz.func61, Tryz.ntmps61
 exact walk1
theorem roundPack_low (f m s p : Nat) (e : Int) (neg mo : Bool) (w : World) (hp : p ≤ 113) (he : e < -1048576) (cP : CK_ 79 #[.int .u8 f] (.int .i64 (p : Nat))) (cR : ∀ w, Calls Tryz.prog 140 #[.int .u8 f, .int .u8 m] w fun e w' => e = .returned (.bool true) ∧ w = w') :
  CR_ 61 #[.int .u8 f, .int .u8 m, RV neg s e mo] w (.tuple #[BV 0, .int .u8 0, .int .i64 2]) := by
 have H := Own.start w
 have he2 : decide (e < -1048576) = true := by simpa using he
 go_enter Tryz.func61, Tryz.ntmps61
 exact walk1
theorem roundPack_high (f m s p : Nat) (e : Int) (neg mo : Bool) (w : World) (hp : p ≤ 113) (he : 1048576 < e) (cP : CK_ 79 #[.int .u8 f] (.int .i64 (p : Nat))) (cR : ∀ w, Calls Tryz.prog 140 #[.int .u8 f, .int .u8 m] w fun e w' => e = .returned (.bool true) ∧ w = w') :
  CR_ 61 #[.int .u8 f, .int .u8 m, RV neg s e mo] w (.tuple #[BV 0, .int .u8 0, .int .i64 2]) := by
 have H := Own.start w
 have he2 : decide (e < -1048576) = false := by simp; omega
 have he3 : decide (1048576 < e) = true := by simpa using he
 go_enter Tryz.func61, Tryz.ntmps61
 exact walk1
theorem roundPack_more (f m s p l : Nat) (e : Int) (neg : Bool) (w : World) (hp : p ≤ 113) (h1 : -1048576 ≤ e) (h2 : e ≤ 1048576) (hl : l < p + 2) (hl4 : l ≤ 384) (cP : CK_ 79 #[.int .u8 f] (.int .i64 (p : Nat))) (cR : ∀ w, Calls Tryz.prog 140 #[.int .u8 f, .int .u8 m] w fun e w' => e = .returned (.bool true) ∧ w = w') (cL : CK_ 80 #[W s] (.int .i64 (l : Nat))) :
  CR_ 61 #[.int .u8 f, .int .u8 m, RV neg s e true] w (.tuple #[BV 0, .int .u8 0, .int .i64 2]) := by
 have H := Own.start w
 have he2 : decide (e < -1048576) = false := by simp; omega
 have he3 : decide (1048576 < e) = false := by simp; omega
 have hl2 : decide ((l : Int) < (p : Int) + 2) = true := by simp; omega
 go_enter Tryz.func61, Tryz.ntmps61
 exact walk1
theorem roundPack_zero_f (f m s p l z : Nat) (e : Int) (neg : Bool) (w : World) (hT : Tab w) (hp : p ≤ 113) (h1 : -1048576 ≤ e) (h2 : e ≤ 1048576) (hl4 : l ≤ 384) (cP : CK_ 79 #[.int .u8 f] (.int .i64 (p : Nat))) (cR : ∀ w, Calls Tryz.prog 140 #[.int .u8 f, .int .u8 m] w fun e w' => e = .returned (.bool true) ∧ w = w') (cL : CK_ 80 #[W s] (.int .i64 (l : Nat))) (hs : s < top6) (hs0 : decide (s = 0) = true) (cZ : CK_ 78 #[.int .u8 f, .bool neg] (BV z)) :
  CR_ 61 #[.int .u8 f, .int .u8 m, RV neg s e false] w (.tuple #[BV z, .int .u8 0, .int .i64 0]) := by
 have H := Own.start w
 have HT := Lib.hid hT
 clear hT
 have he2 : decide (e < -1048576) = false := by simp; omega
 have he3 : decide (1048576 < e) = false := by simp; omega
 have eq1 : ∀ w, (Op.equalIn 10000 60 (.agg (limbs s)) (.agg #[.int .u64 0, .int .u64 0, .int .u64 0, .int .u64 0, .int .u64 0, .int .u64 0])).run Tryz.prog w = .ok true w := fun w => (run_equal_zero w s hs).trans (by rw [hs0])
 clear hs hs0
 go_enter Tryz.func61, Tryz.ntmps61
 exact walk1
theorem roundPack_over_f (f m s p l E o : Nat) (e top lo : Int) (neg : Bool) (w : World) (hT : Tab w) (hp : p ≤ 113) (h1 : -1048576 ≤ e) (h2 : e ≤ 1048576) (hl4 : l ≤ 384) (cP : CK_ 79 #[.int .u8 f] (.int .i64 (p : Nat))) (cR : ∀ w, Calls Tryz.prog 140 #[.int .u8 f, .int .u8 m] w fun e w' => e = .returned (.bool true) ∧ w = w') (cL : CK_ 80 #[W s] (.int .i64 (l : Nat))) (hs : s < top6) (hs0 : decide (s = 0) = false) (htop : (l : Int) - 1 + e = top) (l1 : -20000 ≤ lo) (l2 : lo ≤ 20000) (t1 : -1100000 ≤ top) (t2 : top ≤ 1100000) (hE : E ≤ 16383) (cE : CK_ 141 #[.int .u8 f] (.int .i64 lo)) (cX : CK_ 142 #[.int .u8 f] (.int .i64 (E : Nat))) (hov : (E : Int) < top) (cO : CK_ 143 #[.int .u8 f, .int .u8 m, .bool neg] (.tuple #[BV o, .int .u8 5, .int .i64 0])) :
  CR_ 61 #[.int .u8 f, .int .u8 m, RV neg s e false] w (.tuple #[BV o, .int .u8 5, .int .i64 0]) := by
 have H := Own.start w
 have HT := Lib.hid hT
 clear hT
 have he2 : decide (e < -1048576) = false := by simp; omega
 have he3 : decide (1048576 < e) = false := by simp; omega
 have eq1 : ∀ w, (Op.equalIn 10000 60 (.agg (limbs s)) (.agg #[.int .u64 0, .int .u64 0, .int .u64 0, .int .u64 0, .int .u64 0, .int .u64 0])).run Tryz.prog w = .ok false w := fun w => (run_equal_zero w s hs).trans (by rw [hs0])
 have v1 : IntKind.i64.wrap ((l : Int) - 1) = (l : Int) - 1 := IntWalk.i64_in _ (by omega)
 have v2 : IntKind.i64.wrap ((l : Int) - 1 + e) = top := by rw [htop]; exact IntWalk.i64_in _ (by omega)
 clear hs hs0 htop
 go_enter Tryz.func61, Tryz.ntmps61
 exact walk2
theorem roundPack_zero_t (f m s p l z : Nat) (e : Int) (neg : Bool) (w : World) (hT : Tab w) (hp : p ≤ 113) (h1 : -1048576 ≤ e) (h2 : e ≤ 1048576) (hl4 : l ≤ 384) (hl : ¬ l < p + 2) (cP : CK_ 79 #[.int .u8 f] (.int .i64 (p : Nat))) (cR : ∀ w, Calls Tryz.prog 140 #[.int .u8 f, .int .u8 m] w fun e w' => e = .returned (.bool true) ∧ w = w') (cL : CK_ 80 #[W s] (.int .i64 (l : Nat))) (hs : s < top6) (hs0 : decide (s = 0) = true) (cZ : CK_ 78 #[.int .u8 f, .bool neg] (BV z)) :
  CR_ 61 #[.int .u8 f, .int .u8 m, RV neg s e true] w (.tuple #[BV z, .int .u8 0, .int .i64 0]) := by
 have H := Own.start w
 have HT := Lib.hid hT
 clear hT
 have he2 : decide (e < -1048576) = false := by simp; omega
 have he3 : decide (1048576 < e) = false := by simp; omega
 have hl2 : decide ((l : Int) < (p : Int) + 2) = false := by simp; omega
 have eq1 : ∀ w, (Op.equalIn 10000 60 (.agg (limbs s)) (.agg #[.int .u64 0, .int .u64 0, .int .u64 0, .int .u64 0, .int .u64 0, .int .u64 0])).run Tryz.prog w = .ok true w := fun w => (run_equal_zero w s hs).trans (by rw [hs0])
 clear hs hs0
 go_enter Tryz.func61, Tryz.ntmps61
 exact walk1
theorem roundPack_over_t (f m s p l E o : Nat) (e top lo : Int) (neg : Bool) (w : World) (hT : Tab w) (hp : p ≤ 113) (h1 : -1048576 ≤ e) (h2 : e ≤ 1048576) (hl4 : l ≤ 384) (hl : ¬ l < p + 2) (cP : CK_ 79 #[.int .u8 f] (.int .i64 (p : Nat))) (cR : ∀ w, Calls Tryz.prog 140 #[.int .u8 f, .int .u8 m] w fun e w' => e = .returned (.bool true) ∧ w = w') (cL : CK_ 80 #[W s] (.int .i64 (l : Nat))) (hs : s < top6) (hs0 : decide (s = 0) = false) (htop : (l : Int) - 1 + e = top) (l1 : -20000 ≤ lo) (l2 : lo ≤ 20000) (t1 : -1100000 ≤ top) (t2 : top ≤ 1100000) (hE : E ≤ 16383) (cE : CK_ 141 #[.int .u8 f] (.int .i64 lo)) (cX : CK_ 142 #[.int .u8 f] (.int .i64 (E : Nat))) (hov : (E : Int) < top) (cO : CK_ 143 #[.int .u8 f, .int .u8 m, .bool neg] (.tuple #[BV o, .int .u8 5, .int .i64 0])) :
  CR_ 61 #[.int .u8 f, .int .u8 m, RV neg s e true] w (.tuple #[BV o, .int .u8 5, .int .i64 0]) := by
 have H := Own.start w
 have HT := Lib.hid hT
 clear hT
 have he2 : decide (e < -1048576) = false := by simp; omega
 have he3 : decide (1048576 < e) = false := by simp; omega
 have hl2 : decide ((l : Int) < (p : Int) + 2) = false := by simp; omega
 have eq1 : ∀ w, (Op.equalIn 10000 60 (.agg (limbs s)) (.agg #[.int .u64 0, .int .u64 0, .int .u64 0, .int .u64 0, .int .u64 0, .int .u64 0])).run Tryz.prog w = .ok false w := fun w => (run_equal_zero w s hs).trans (by rw [hs0])
 have v1 : IntKind.i64.wrap ((l : Int) - 1) = (l : Int) - 1 := IntWalk.i64_in _ (by omega)
 have v2 : IntKind.i64.wrap ((l : Int) - 1 + e) = top := by rw [htop]; exact IntWalk.i64_in _ (by omega)
 clear hs hs0 htop
 go_enter Tryz.func61, Tryz.ntmps61
 exact walk2
theorem app_get (p q r : Array Value) (hp : p.size = 14) (hq : q.size = 14) (hr : r.size = 14) (j : Nat) : (p ++ q ++ r)[j]? = if j < 14 then p[j]? else if j < 28 then q[j - 14]? else r[j - 28]? := by
 rw [Array.getElem?_append, Array.getElem?_append, Array.size_append, hp, hq]
 by_cases h1 : j < 14
 ·rw [if_pos (by omega), if_pos h1, if_pos h1]
 ·by_cases h2 : j < 28
  ·rw [if_pos (by omega), if_neg h1, if_neg h1, if_pos h2]
  ·rw [if_neg (by omega), if_neg h1, if_neg h2]
theorem app_size (p q r : Array Value) (hp : p.size = 14) (hq : q.size = 14) (hr : r.size = 14) : (p ++ q ++ r).size = 42 := by rw [Array.size_append, Array.size_append, hp, hq, hr]
theorem set_app0 (p q r v : Array Value) (hp : p.size = 14) (hq : q.size = 14) (hr : r.size = 14) (hv : v.size = 14) : setRow (p ++ q ++ r) 0 v.toList = v ++ q ++ r := by
 apply Array.ext_getElem?
 intro j
 rw [setRow_at _ _ _ _ (by rw [app_size p q r hp hq hr]; omega), app_get p q r hp hq hr, app_get v q r hv hq hr, hv, if_neg (by omega)]
 by_cases h1 : j < 14
 ·rw [if_pos (by omega), if_pos h1]; rfl
 ·rw [if_neg (by omega), if_neg h1, if_neg h1]
theorem set_app1 (p q r v : Array Value) (hp : p.size = 14) (hq : q.size = 14) (hr : r.size = 14) (hv : v.size = 14) : setRow (p ++ q ++ r) 14 v.toList = p ++ v ++ r := by
 apply Array.ext_getElem?
 intro j
 rw [setRow_at _ _ _ _ (by rw [app_size p q r hp hq hr]; omega), app_get p q r hp hq hr, app_get p v r hp hv hr, hv]
 by_cases h1 : j < 14
 ·rw [if_pos (by omega), if_pos h1, if_pos h1]
 ·by_cases h2 : j < 28
  ·rw [if_neg (by omega), if_pos (by omega), if_neg h1, if_pos h2]
  ·rw [if_neg (by omega), if_neg (by omega), if_neg h1, if_neg h2, if_neg h1, if_neg h2]
theorem set_app2 (p q r v : Array Value) (hp : p.size = 14) (hq : q.size = 14) (hr : r.size = 14) (hv : v.size = 14) : setRow (p ++ q ++ r) 28 v.toList = p ++ q ++ v := by
 apply Array.ext_getElem?
 intro j
 rw [setRow_at _ _ _ _ (by rw [app_size p q r hp hq hr]; omega), app_get p q r hp hq hr, app_get p q v hp hq hv, hv]
 by_cases h1 : j < 14
 ·rw [if_pos (by omega), if_pos h1, if_pos h1]
 ·by_cases h2 : j < 28
  ·rw [if_pos (by omega), if_neg h1, if_pos h2, if_neg h1, if_pos h2]
  ·rw [if_neg (by omega), if_neg h1, if_neg h2]
   by_cases h3 : j < 42
   ·rw [if_pos (by omega), if_neg h1, if_neg h2]
   ·rw [if_neg (by omega), if_neg h1, if_neg h2, Array.getElem?_eq_none (by omega), Array.getElem?_eq_none (by omega)]
def tri (c1 s1 : Nat) (x1 : Int) (f1 : Nat) (c2 s2 : Nat) (x2 : Int) (f2 : Nat) (c3 s3 : Nat) (x3 : Int) (f3 : Nat) : Array Value := #[.int .u8 c1, .int .u64 (limb s1 0), .int .u64 (limb s1 1), .int .u64 (limb s1 2), .int .u64 (limb s1 3), .int .u64 (limb s1 4), .int .u64 (limb s1 5), .int .i64 x1, .int .u64 (limb f1 0), .int .u64 (limb f1 1), .int .u64 (limb f1 2), .int .u64 (limb f1 3), .int .u64 (limb f1 4), .int .u64 (limb f1 5), .int .u8 c2, .int .u64 (limb s2 0), .int .u64 (limb s2 1), .int .u64 (limb s2 2), .int .u64 (limb s2 3), .int .u64 (limb s2 4), .int .u64 (limb s2 5), .int .i64 x2, .int .u64 (limb f2 0), .int .u64 (limb f2 1), .int .u64 (limb f2 2), .int .u64 (limb f2 3), .int .u64 (limb f2 4), .int .u64 (limb f2 5), .int .u8 c3, .int .u64 (limb s3 0), .int .u64 (limb s3 1), .int .u64 (limb s3 2), .int .u64 (limb s3 3), .int .u64 (limb s3 4), .int .u64 (limb s3 5), .int .i64 x3, .int .u64 (limb f3 0), .int .u64 (limb f3 1), .int .u64 (limb f3 2), .int .u64 (limb f3 3), .int .u64 (limb f3 4), .int .u64 (limb f3 5)]
theorem ext_tri (c1 s1 : Nat) (x1 : Int) (f1 : Nat) (c2 s2 : Nat) (x2 : Int) (f2 : Nat) (c3 s3 : Nat) (x3 : Int) (f3 : Nat) : (tri c1 s1 x1 f1 c2 s2 x2 f2 c3 s3 x3 f3).extract 0 (0 + (tri c1 s1 x1 f1 c2 s2 x2 f2 c3 s3 x3 f3).size) = tri c1 s1 x1 f1 c2 s2 x2 f2 c3 s3 x3 f3 := by rw [Nat.zero_add]; exact Array.extract_size
theorem tri_app (c1 s1 : Nat) (x1 : Int) (f1 : Nat) (c2 s2 : Nat) (x2 : Int) (f2 : Nat) (c3 s3 : Nat) (x3 : Int) (f3 : Nat) : tri c1 s1 x1 f1 c2 s2 x2 f2 c3 s3 x3 f3 = parts c1 s1 x1 f1 ++ parts c2 s2 x2 f2 ++ parts c3 s3 x3 f3 := by unfold tri parts; simp only [List.append_toArray, List.cons_append, List.nil_append]
theorem ext_t0 (c1 s1 : Nat) (x1 : Int) (f1 : Nat) (c2 s2 : Nat) (x2 : Int) (f2 : Nat) (c3 s3 : Nat) (x3 : Int) (f3 : Nat) : (tri c1 s1 x1 f1 c2 s2 x2 f2 c3 s3 x3 f3).extract 0 (0 + (parts c1 s1 x1 f1).size) = parts c1 s1 x1 f1 := by rw [tri_app]; exact app3_0 _ _ _
theorem set_t0 (c1 s1 : Nat) (x1 : Int) (f1 : Nat) (c2 s2 : Nat) (x2 : Int) (f2 : Nat) (c3 s3 : Nat) (x3 : Int) (f3 : Nat) (c s : Nat) (x : Int) (f : Nat) : setRow (tri c1 s1 x1 f1 c2 s2 x2 f2 c3 s3 x3 f3) 0 (parts c s x f).toList = tri c s x f c2 s2 x2 f2 c3 s3 x3 f3 := by rw [tri_app, set_app0 _ _ _ _ rfl rfl rfl rfl, tri_app]
theorem ext_t1 (c1 s1 : Nat) (x1 : Int) (f1 : Nat) (c2 s2 : Nat) (x2 : Int) (f2 : Nat) (c3 s3 : Nat) (x3 : Int) (f3 : Nat) : (tri c1 s1 x1 f1 c2 s2 x2 f2 c3 s3 x3 f3).extract 14 (14 + (parts c2 s2 x2 f2).size) = parts c2 s2 x2 f2 := by rw [tri_app]; exact app3_1 _ _ _ rfl
theorem set_t1 (c1 s1 : Nat) (x1 : Int) (f1 : Nat) (c2 s2 : Nat) (x2 : Int) (f2 : Nat) (c3 s3 : Nat) (x3 : Int) (f3 : Nat) (c s : Nat) (x : Int) (f : Nat) : setRow (tri c1 s1 x1 f1 c2 s2 x2 f2 c3 s3 x3 f3) 14 (parts c s x f).toList = tri c1 s1 x1 f1 c s x f c3 s3 x3 f3 := by rw [tri_app, set_app1 _ _ _ _ rfl rfl rfl rfl, tri_app]
theorem ext_t2 (c1 s1 : Nat) (x1 : Int) (f1 : Nat) (c2 s2 : Nat) (x2 : Int) (f2 : Nat) (c3 s3 : Nat) (x3 : Int) (f3 : Nat) : (tri c1 s1 x1 f1 c2 s2 x2 f2 c3 s3 x3 f3).extract 28 (28 + (parts c3 s3 x3 f3).size) = parts c3 s3 x3 f3 := by rw [tri_app]; exact app3_2 _ _ _ rfl
theorem set_t2 (c1 s1 : Nat) (x1 : Int) (f1 : Nat) (c2 s2 : Nat) (x2 : Int) (f2 : Nat) (c3 s3 : Nat) (x3 : Int) (f3 : Nat) (c s : Nat) (x : Int) (f : Nat) : setRow (tri c1 s1 x1 f1 c2 s2 x2 f2 c3 s3 x3 f3) 28 (parts c s x f).toList = tri c1 s1 x1 f1 c2 s2 x2 f2 c s x f := by rw [tri_app, set_app2 _ _ _ _ rfl rfl rfl rfl, tri_app]
theorem tri_zero : tri 0 0 0 0 0 0 0 0 0 0 0 0 = #[.int .u8 0, .int .u64 0, .int .u64 0, .int .u64 0, .int .u64 0, .int .u64 0, .int .u64 0, .int .i64 0, .int .u64 0, .int .u64 0, .int .u64 0, .int .u64 0, .int .u64 0, .int .u64 0, .int .u8 0, .int .u64 0, .int .u64 0, .int .u64 0, .int .u64 0, .int .u64 0, .int .u64 0, .int .i64 0, .int .u64 0, .int .u64 0, .int .u64 0, .int .u64 0, .int .u64 0, .int .u64 0, .int .u8 0, .int .u64 0, .int .u64 0, .int .u64 0, .int .u64 0, .int .u64 0, .int .u64 0, .int .i64 0, .int .u64 0, .int .u64 0, .int .u64 0, .int .u64 0, .int .u64 0, .int .u64 0] := by
 unfold tri; simp only [limb_zero]; rfl
theorem t3_z : (Tryz.prog.info? 101).bind (·.zero) = some (.agg (tri 0 0 0 0 0 0 0 0 0 0 0 0)) := by rw [tri_zero]; kernel_rfl
theorem rQ : IsRow Tryz.prog 101 42 (tri 0 0 0 0 0 0 0 0 0 0 0 0) := ⟨⟨_, Tryz.underlying101, rfl⟩, t3_s, t3_z⟩
theorem set_tri (a1 a2 : Nat) (a3 : Int) (a4 a5 a6 : Nat) (a7 : Int) (a8 a9 a10 : Nat) (a11 : Int) (a12 c1 s1 : Nat) (x1 : Int) (f1 : Nat) (c2 s2 : Nat) (x2 : Int) (f2 : Nat) (c3 s3 : Nat) (x3 : Int) (f3 : Nat) : setRow (tri a1 a2 a3 a4 a5 a6 a7 a8 a9 a10 a11 a12) 0 (tri c1 s1 x1 f1 c2 s2 x2 f2 c3 s3 x3 f3).toList = tri c1 s1 x1 f1 c2 s2 x2 f2 c3 s3 x3 f3 := set_all _ _ rfl
theorem set_pw (a b : Nat) (x : Int) (d c s : Nat) (y : Int) (f : Nat) : setRow (parts a b x d) 0 (parts c s y f).toList = parts c s y f := set_all _ _ rfl
abbrev PZ : Array Value := parts 0 0 0 0
abbrev PT (f b : Nat) : Array Value := parts (clsN f b) (sigN f b) (xpN f b) (frN f b)
abbrev bc (b : Nat) : Array Value := #[.int .u64 (limb b 1), .int .u64 (limb b 0)]
theorem flag_on (b c : Bool) (h : c = true) : Value.int .u8 (Go.bits .or .u8 (cond b 16 0) 16) = .int .u8 (cond c 16 0) := by
 subst h; have : Go.bits .or .u8 (cond b 16 0) 16 = 16 := by cases b <;> decide +kernel
 rw [this]; rfl
theorem flag_on0 (c : Bool) (h : c = true) : Value.int .u8 (Go.bits .or .u8 0 16) = .int .u8 (cond c 16 0) := by subst h; exact flag_on false true rfl
theorem flag_off0 (c : Bool) (h : c = false) : Value.int .u8 0 = .int .u8 (cond c 16 0) := by subst h; rfl
theorem flag_off (b c : Bool) (h : c = b) : Value.int .u8 (cond b 16 0) = .int .u8 (cond c 16 0) := by rw [h]
structure Bls (w : World) (g o : Nat) (l : List Nat) : Prop where
 lt : g < w.heap.size
 elem : ∀ k b, l[k]? = some b → w.rangeAt g (o + k * 2) [.int .u64 (limb b 1), .int .u64 (limb b 0)]
theorem range_below {B : Nat} {w w' : World} (h : Below B w w') {g o : Nat} {cs : List Value} (hg : g < B) (r : w.rangeAt g o cs) : w'.rangeAt g o cs :=
 fun j v hj => (h.cell (p := ⟨g, o + j, none⟩) hg).trans (r j v hj)
theorem Bls.below {B : Nat} {w w' : World} {g o : Nat} {l : List Nat} (h : Bls w g o l) (hb : Below B w w') (hg : g < B) : Bls w' g o l :=
 ⟨Nat.lt_of_lt_of_le h.lt hb.size, fun k b hk => range_below hb hg (h.elem k b hk)⟩
theorem Bls.tail {w : World} {g o : Nat} {b : Nat} {l : List Nat} (h : Bls w g o (b :: l)) : Bls w g (o + 2) l :=
 ⟨h.lt, fun k c hk => by have := h.elem (k + 1) c (by rw [List.getElem?_cons_succ]; exact hk); rw [show o + 2 + k * 2 = o + (k + 1) * 2 by omega]; exact this⟩
section
variable {P : Program} {w0 w : World} {L L' : List Bk} {op : Oper} {a : Act} {Q : Exit → Act → World → Prop} {ops : Array Oper} {rest : List Oper} {K : Act → World → Prop} {md : Region.Mode} {fuel : Nat} {listed : Array Bool}
theorem Own.lde (H : Own w0 w L) {t : TypeId} {z : Array Value} {x : Operand} {g o p k : Nat} {l : List Nat} {b : Nat} (hb : Bls w0 g o l) (hk : l[k]? = some b) (h : wpList P ops Q rest (a.put op.dst (BV b)) w)
  (hw : Region.wanted op (yielded ops a.tmps) = true := by exact rfl) (R : IsRow P t 2 z := by with_reducible exact rB) (ho : op.op = .load t x := by exact rfl) (hx : a.eval x = .pointer (some ⟨g, p, none⟩) := by exact rfl) (hp : p = o + k * 2 := by first | rfl | omega) : wpList P ops Q (op :: rest) a w := by
 subst hp
 obtain ⟨d, hu, hd⟩ := R.row
 exact wp_wanted hw fun _ hK => wp_load_mid (P := P) t x ho g _ hx _ d (range_below H.below hb.lt (hb.elem k b hk)) hu hd (by rw [R.size]; rfl) (hK _ _ h)
theorem Own.zle (H : Own w0 w L) (i : Nat) {t : TypeId} {z : Array Value} {x : Operand} {g o p k : Nat} {l : List Nat} {b : Nat} (hb : Bls w0 g o l) (hk : l[k]? = some b)
  (h : wpAnyH P md ops Q (fun w' => Own w0 w' L') fuel (listed.setIfInBounds i true) (a.put op.dst (BV b)) w)
  (hL : List.Sublist L' L := by repeat (first | with_reducible exact List.Sublist.refl _ | with_reducible apply List.Sublist.cons_cons | with_reducible apply List.Sublist.cons)) (hi : ops[i]? = some op := by exact rfl) (hs : Region.noSelect ops = true := by kernel_rfl) (hf : Region.free md ops listed i = true := by kernel_rfl) (hr : (Region.ready md ops listed).contains i = true := by kernel_rfl) (hQ : ∀ v c a w, Q (.panic c) (a.put op.dst v) w → Q (.panic c) a w := by first | exact fun _ _ _ _ h => h | exact fun _ _ _ _ h => by cases h.1) (hw : Region.wanted op (yielded ops a.tmps) = true := by exact rfl)
  (R : IsRow P t 2 z := by with_reducible exact rB) (ho : op.op = .load t x := by exact rfl) (hx : a.eval x = .pointer (some ⟨g, p, none⟩) := by exact rfl) (hp : p = o + k * 2 := by first | rfl | omega) : wpAnyH P md ops Q (fun w' => Own w0 w' L') (fuel + 1) listed a w := by
 subst hp
 obtain ⟨d, hu, hd⟩ := R.row
 exact wpAnyH_take hi hs hf hr (hQ _) (yieldsIf_load_mid (P := P) hw t x ho g _ hx _ d (fun w h => range_below h.below hb.lt (hb.elem k b hk)) hu hd (by rw [R.size]; rfl)) (H.sub hL) h
end
theorem bv_mod (x : Nat) : BV (x % 2 ^ (64 * 2)) = BV x := by
 unfold BV limb
 rw [limbN_mod x 1 2 (by decide), limbN_mod x 0 2 (by decide)]
def stepF (F : Nat → Nat → Nat × Nat × Int) (p : Nat × Int) (x : Nat) : Nat × Int := ((F p.1 x).1 % 2 ^ (64 * 2), Go.bits .or .u8 p.2 ((F p.1 x).2.1 : Nat))
def sumF (F : Nat → Nat → Nat × Nat × Int) : List Nat → Nat × Int
 | [] => (0, 0)
 | b :: r => r.foldl (stepF F) (b, 0)
theorem take_next (l : List Nat) (k b : Nat) (h : l[k]? = some b) : l.take (k + 1) = l.take k ++ [b] := by
 rw [List.take_add_one, h]; rfl
theorem sumF_one (F : Nat → Nat → Nat × Nat × Int) (l : List Nat) (b : Nat) (h : l[0]? = some b) : sumF F (l.take 1) = (b, 0) := by
 cases l with
 | nil => simp at h
 | cons c r => simp at h; subst h; rfl
theorem sumF_next (F : Nat → Nat → Nat × Nat × Int) (l : List Nat) (k b : Nat) (hk : 0 < k) (h : l[k]? = some b) : sumF F (l.take (k + 1)) = stepF F (sumF F (l.take k)) b := by
 rw [take_next l k b h]
 obtain ⟨j, rfl⟩ : ∃ j, k = j + 1 := ⟨k - 1, by omega⟩
 cases l with
 | nil => simp at h
 | cons c r =>
  show sumF F (c :: r.take j ++ [b]) = stepF F (sumF F (c :: r.take j)) b
  unfold sumF
  rw [List.cons_append]
  show List.foldl (stepF F) (c, 0) (r.take j ++ [b]) = _
  rw [List.foldl_append]; rfl
theorem sumF_lt (F : Nat → Nat → Nat × Nat × Int) (l : List Nat) (h : ∀ b ∈ l, b < 2 ^ (64 * 2)) : (sumF F l).1 < 2 ^ (64 * 2) := by
 cases l with
 | nil => exact (by decide : (0 : Nat) < 2 ^ (64 * 2))
 | cons c r =>
  have : ∀ (r : List Nat) (p : Nat × Int), p.1 < 2 ^ (64 * 2) → (r.foldl (stepF F) p).1 < 2 ^ (64 * 2) := by
   intro r
   induction r with
   | nil => intro p hp; exact hp
   | cons x r ih => intro p _; exact ih _ (Nat.mod_lt _ (Nat.two_pow_pos _))
  exact this r (c, 0) (h c (List.mem_cons_self))
theorem take_all (l : List Nat) (k : Nat) (h : l.length ≤ k) : l.take k = l := List.take_of_length_le h
def allB (f : Nat) (l : List Nat) : Bool := l.all (fitsB f)
theorem allB_not (f : Nat) (l : List Nat) (k b : Nat) (h : l[k]? = some b) (hb : fitsB f b = false) : allB f l = false := by
 unfold allB
 rw [List.all_eq_false]
 exact ⟨b, List.mem_of_getElem? h, by rw [hb]; decide⟩
theorem allB_yes (f : Nat) (l : List Nat) (n : Nat) (hn : l.length ≤ n) (h : ∀ j b, j < n → l[j]? = some b → fitsB f b = true) : allB f l = true := by
 unfold allB
 rw [List.all_eq_true]
 intro b hb
 obtain ⟨j, hj⟩ := List.mem_iff_getElem?.1 hb
 have := (List.getElem?_eq_some_iff.1 hj).1
 exact h j b (by omega) hj
theorem fits_next {f : Nat} {l : List Nat} {k b : Nat} (h : ∀ j b, j < k → l[j]? = some b → fitsB f b = true) (hb : l[k]? = some b) (hf : fitsB f b = true) : ∀ j x, j < k + 1 → l[j]? = some x → fitsB f x = true := by
 intro j x hj hx
 by_cases e : j = k
 ·rw [e, hb] at hx
  injection hx with hx
  rw [← hx]; exact hf
 ·exact h j x (by omega) hx
def Sl (w : World) (v : Value) (l : List Nat) : Prop :=
 (∃ sa c, v = .slice sa 0 c ∧ l = [] ∧ (sa = none → c = 0)) ∨ ∃ g o n c, v = .slice (some ⟨g, o, none⟩) n c ∧ 0 < n ∧ n ≤ c ∧ l.length = n ∧ Bls w g o l
def cellsL (l : List Nat) : List Value := l.flatMap fun b => [.int .u64 (limb b 1), .int .u64 (limb b 0)]
theorem cellsL_cons (b : Nat) (l : List Nat) : cellsL (b :: l) = .int .u64 (limb b 1) :: .int .u64 (limb b 0) :: cellsL l := rfl
theorem cellsL_len (l : List Nat) : (cellsL l).length = l.length * 2 := by
 induction l with
 | nil => rfl
 | cons b r ih => rw [cellsL_cons, List.length_cons, List.length_cons, ih, List.length_cons]; omega
theorem cellsL_get (l : List Nat) : ∀ (k b : Nat), l[k]? = some b → (cellsL l)[k * 2]? = some (.int .u64 (limb b 1)) ∧ (cellsL l)[k * 2 + 1]? = some (.int .u64 (limb b 0)) := by
 induction l with
 | nil => intro k b h; simp at h
 | cons c r ih =>
  intro k b h
  cases k with
  | zero =>
   rw [List.getElem?_cons_zero] at h
   injection h with h
   subst h
   exact ⟨rfl, rfl⟩
  | succ k =>
   rw [List.getElem?_cons_succ] at h
   have := ih k b h
   rw [cellsL_cons, show (k + 1) * 2 = k * 2 + 1 + 1 by omega, List.getElem?_cons_succ, List.getElem?_cons_succ, List.getElem?_cons_succ, List.getElem?_cons_succ]
   exact this
theorem cellsL_all (l : List Nat) : ∀ (j : Nat) (u : Value), (cellsL l)[j]? = some u → ∃ k b, l[k]? = some b ∧ ((j = k * 2 ∧ u = .int .u64 (limb b 1)) ∨ (j = k * 2 + 1 ∧ u = .int .u64 (limb b 0))) := by
 intro j u h
 have hj : j < (cellsL l).length := (List.getElem?_eq_some_iff.1 h).1
 rw [cellsL_len] at hj
 obtain ⟨b, hb⟩ : ∃ b, l[j / 2]? = some b := ⟨_, List.getElem?_eq_getElem (by omega)⟩
 have hg := cellsL_get l _ b hb
 rcases Nat.mod_two_eq_zero_or_one j with e | e
 ·refine ⟨j / 2, b, hb, Or.inl ⟨by omega, ?_⟩⟩
  have e1 : j / 2 * 2 = j := by omega
  rw [e1, h] at hg
  injection hg.1
 ·refine ⟨j / 2, b, hb, Or.inr ⟨by omega, ?_⟩⟩
  have e1 : j / 2 * 2 + 1 = j := by omega
  rw [e1, h] at hg
  injection hg.2
theorem range_two {w : World} {g o : Nat} {x y : Value} (h0 : w.cell? ⟨g, o, none⟩ = some x) (h1 : w.cell? ⟨g, o + 1, none⟩ = some y) : w.rangeAt g o [x, y] := by
 intro j v hj
 match j with
 | 0 => simp only [List.getElem?_cons_zero] at hj; rw [← hj]; exact h0
 | 1 => simp only [List.getElem?_cons_succ, List.getElem?_cons_zero] at hj; rw [← hj]; exact h1
 | j + 2 => simp at hj
theorem bits_info : (Tryz.prog.info? 27).map (fun i => (i.zero, i.size, i.bytes)) = some (some (.agg #[.int .u64 0, .int .u64 0]), 2, 16) := by kernel_rfl
section
variable {ops : Array Oper} {rest : List Oper} {op : Oper} {a : Act} {w : World} {Q : Exit → Act → World → Prop} {s x : Operand}
theorem app_bits (hgd : op.guard = none) (ho : op.op = .call { callee := .builtin .append, args := #[s, x], argTypes := #[48, 48] }) (hs : a.eval s = .slice none 0 0) {g o n c : Nat} {l : List Nat}
  (hx : a.eval x = .slice (some ⟨g, o, none⟩) n c) (h0 : 0 < n) (hn : n ≤ 60) (hl : l.length = n) (hb : Bls w g o l)
  (h : ∀ g' c' w', Below w.heap.size w w' → Bls w' g' 0 l → Bls w' g o l → n ≤ c' → wpList Tryz.prog ops Q rest (a.put op.dst (.slice (some ⟨g', 0, none⟩) n c')) w') : wpList Tryz.prog ops Q (op :: rest) a w := by
 obtain ⟨i, hi, hz, hsz, hby⟩ := info_parts bits_info
 refine wpList_append_own w hgd s x _ ho w.heap.size _ i _ 2 16 Tryz.underlying48 hi hz hsz hby rfl (by decide) _ 0 [] hs (World.ownsRow_nil _ _ _ _) ⟨g, o, none⟩ n c (cellsL l) hx (by rw [cellsL_len, hl]) ?_ ?_ (by simp only [maxLen]; omega) (by omega) (Nat.le_refl _) ?_
 ·intro j u hj
  rw [Addr.add_mid]
  obtain ⟨k, b, hk, ⟨rfl, rfl⟩ | ⟨rfl, rfl⟩⟩ := cellsL_all l j u hj
  ·have := hb.elem k b hk 0 _ rfl
   exact this
  ·have := hb.elem k b hk 1 _ rfl
   rw [show o + k * 2 + 1 = o + (k * 2 + 1) by omega] at this
   exact this
 ·intro u hu
  obtain ⟨j, hj⟩ := List.mem_iff_getElem?.1 hu
  obtain ⟨k, b, hk, ⟨-, rfl⟩ | ⟨-, rfl⟩⟩ := cellsL_all l j u hj <;> rfl
 ·intro v' w' hown hgrow _
  obtain ⟨hlen, h2⟩ := hown
  rw [Nat.zero_add, List.nil_append] at *
  rcases h2 with ⟨rfl, h3⟩ | ⟨g', cap, cur, rfl, hg, hh, hc, hm, hcs, ht⟩
  ·exact absurd h3 (by omega)
  ·have bel : Below w.heap.size w w' := ⟨hgrow.os, hgrow.tape, hgrow.output, hgrow.size, fun k hk => hgrow.block k hk (by simp [Value.ownBlock])⟩
   have hB : Blk 27 w' g' cur := hh
   refine h g' cap w' bel ⟨hB.lt, fun k b hk => ?_⟩ (hb.below bel hb.lt) hc
   have hkn : k < n := by rw [← hl]; exact (List.getElem?_eq_some_iff.1 hk).1
   have hget := cellsL_get l k b hk
   have cell : ∀ j u, j < n * 2 → (cellsL l)[j]? = some u → w'.cell? ⟨g', j, none⟩ = some u := by
    intro j u hj hu
    refine hB.cell j ?_
    rw [← ht, List.getElem?_take_of_lt hj, Array.getElem?_toList] at hu
    exact hu
   rw [Nat.zero_add]
   exact range_two (cell _ _ (by omega) hget.1) (cell _ _ (by omega) hget.2)
theorem app_empty (hgd : op.guard = none) (ho : op.op = .call { callee := .builtin .append, args := #[s, x], argTypes := #[48, 48] }) (hs : a.eval s = .slice none 0 0) {sa : Option Addr} {c : Nat}
  (hx : a.eval x = .slice sa 0 c) (h0 : sa = none → c = 0) (h : ∀ w', Below w.heap.size w w' → wpList Tryz.prog ops Q rest (a.put op.dst (.slice none 0 0)) w') : wpList Tryz.prog ops Q (op :: rest) a w := by
 obtain ⟨i, hi, hz, hsz, hby⟩ := info_parts bits_info
 cases sa with
 | none =>
  rw [h0 rfl] at hx
  exact wpList_append_own_none hgd s x _ ho w.heap.size _ i 2 Tryz.underlying48 hi _ 0 [] hs (World.ownsRow_nil _ _ _ _) hx (h w (Below.refl _ _))
 | some ad =>
  refine wpList_append_own w hgd s x _ ho w.heap.size _ i _ 2 16 Tryz.underlying48 hi hz hsz hby rfl (by decide) _ 0 [] hs (World.ownsRow_nil _ _ _ _) ad 0 c [] hx rfl ?_ ?_ (by decide) (by decide) (Nat.le_refl _) ?_
  ·intro j u hj; simp at hj
  ·intro u hu; simp at hu
  ·intro v' w' _ hgrow hiff
   obtain rfl := hiff.2 ⟨rfl, rfl⟩
   exact h w' ⟨hgrow.os, hgrow.tape, hgrow.output, hgrow.size, fun k hk => hgrow.block k hk (by simp [Value.ownBlock])⟩
end
end Go.Proofs.YtgmhmpflmgfcdaaGreatDoor
