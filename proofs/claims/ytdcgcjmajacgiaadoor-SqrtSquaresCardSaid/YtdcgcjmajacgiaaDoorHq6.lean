/- Part 6 of what is proved: Lm, Pa, Kfs, Kfj, Bld, Lq, Wsub, Wcmp, Qdv, Qsq. -/
import Derived.Deep.RegionWith
import Derived.Deep.RegionHeld3
import Derived.Deep.QuietTactic
import Derived.BigQuiet
import Derived.StillTailTactics
import Derived.Outline
import Derived.Test.YtdcgcjmajacgiaaDoorHq0
import Derived.Test.YtdcgcjmajacgiaaDoorHq1
import Derived.Test.YtdcgcjmajacgiaaDoorHq2
import Derived.Test.YtdcgcjmajacgiaaDoorHq4
import Derived.Test.YtdcgcjmajacgiaaDoorHq5
set_option linter.unusedSimpArgs false
set_option linter.unusedVariables false
set_option linter.unnecessarySimpa false
namespace Go.Proofs.YtdcgcjmajacgiaaDoor
open Go.RowKit
theorem limbN_pow (i j : Nat) : limbN (2 ^ i) j = if j = i / 64 then 2 ^ (i % 64) else 0 := by
  have h64 : 2 ^ (i % 64) < 18446744073709551616 := by rw [B64]; exact Nat.pow_lt_pow_right (by decide) (Nat.mod_lt _ (by decide))
  have hp : 2 ^ i = 0 + 2 ^ (i % 64) * 2 ^ (64 * (i / 64)) := by
    rw [Nat.zero_add, ← Nat.pow_add]; congr 1; omega
  have := limbN_put 0 (2 ^ (i % 64)) (i / 64) j (pw_pos _) h64
  rw [← hp] at this
  rw [this]
  have h0 : limbN 0 j = 0 := by unfold limbN; rw [Nat.zero_div]
  rw [h0]
/-- A bit set. -/
theorem limbs_or_bit (q i : Nat) (hi : i < 384) : (limbs q).setIfInBounds (i / 64) (.int .u64 (Go.bits .or .u64 (limb q (i / 64)) ((2 ^ (i % 64) : Nat) : Int))) = limbs (q ||| 2 ^ i) := by
  have key : ∀ j, limb (q ||| 2 ^ i) j = if j = i / 64 then Go.bits .or .u64 (limb q (i / 64)) ((2 ^ (i % 64) : Nat) : Int) else limb q j := by
    intro j
    rw [← limb_or]
    unfold limb
    rw [limbN_pow i j]
    split
    · rename_i h; rw [h]
    · rw [u64_or_nat _ _ (limbN_lt q j) (by decide), Nat.or_zero]
  apply Array.ext_getElem?
  intro j
  by_cases hj : j < 6
  · rw [limbs_get _ j hj, Array.getElem?_setIfInBounds, key j]
    by_cases h : i / 64 = j
    · rw [if_pos h, if_pos (by rw [limbs_size]; omega), if_pos h.symm]
    · rw [if_neg h, if_neg (fun e => h e.symm)]; exact limbs_get q j hj
  · rw [Array.getElem?_eq_none (by rw [Array.size_setIfInBounds, limbs_size]; omega), Array.getElem?_eq_none (by rw [limbs_size]; omega)]
theorem limbs_or1 (x : Nat) : (limbs x).setIfInBounds 0 (.int .u64 (Go.bits .or .u64 (limb x 0) 1)) = limbs (x ||| 1) := limbs_or_bit x 0 (by decide)
theorem set_or1 (x : Nat) : setRow (limbs x) 0 (#[.int .u64 (Go.bits .or .u64 (limb x 0) 1)] : Array Value).toList = limbs (x ||| 1) := limbs_or1 x
/-- One word of a number put anew. -/
def setL (V j v : Nat) : Nat := V % 2 ^ (64 * j) + v * 2 ^ (64 * j) + V / 2 ^ (64 * (j + 1)) * 2 ^ (64 * (j + 1))
theorem split3 (V j : Nat) : V = V % 2 ^ (64 * j) + limbN V j * 2 ^ (64 * j) + V / 2 ^ (64 * (j + 1)) * 2 ^ (64 * (j + 1)) := by
  have h := Nat.div_add_mod V (2 ^ (64 * (j + 1)))
  rw [Nat.mul_comm] at h
  rw [← mod_low]; omega
theorem setL_sum (V j v : Nat) : setL V j v + limbN V j * 2 ^ (64 * j) = V + v * 2 ^ (64 * j) := by
  have := split3 V j
  unfold setL; omega
theorem limbN_above (x h j i : Nat) (hx : x < 2 ^ (64 * j)) (hi : j ≤ i) : limbN (x + h * 2 ^ (64 * j)) i = limbN (h * 2 ^ (64 * j)) i := by
  unfold limbN
  rw [show 64 * i = 64 * j + 64 * (i - j) by omega, Nat.pow_add, ← Nat.div_div_eq_div_mul, ← Nat.div_div_eq_div_mul, Nat.add_mul_div_right _ _ (pw_pos j), Nat.div_eq_of_lt hx, Nat.zero_add, Nat.mul_div_cancel _ (pw_pos j)]
theorem limbN_under (x h j i : Nat) (hi : i < j) : limbN (x + h * 2 ^ (64 * j)) i = limbN x i := by
  rw [← limbN_mod (x + h * 2 ^ (64 * j)) i j hi, Nat.add_mul_mod_self_right, limbN_mod x i j hi]
theorem limbN_setL (V j v i : Nat) (hv : v < 18446744073709551616) : limbN (setL V j v) i = if i = j then v else limbN V i := by
  have hlo := Nat.mod_lt V (pw_pos j)
  have hx : ∀ u, u < 18446744073709551616 → V % 2 ^ (64 * j) + u * 2 ^ (64 * j) < 2 ^ (64 * (j + 1)) := by
    intro u hu
    have h2 : (u + 1) * 2 ^ (64 * j) ≤ 18446744073709551616 * 2 ^ (64 * j) := Nat.mul_le_mul_right _ (by omega)
    rw [pw_succ, Nat.mul_comm _ 18446744073709551616]
    rw [Nat.add_mul] at h2; omega
  by_cases h : i ≤ j
  · unfold setL
    rw [limbN_under _ _ (j + 1) i (by omega), limbN_put _ v j i hlo hv]
    split
    · rfl
    · rw [limbN_mod V i j (by omega)]
  · rw [if_neg (by omega)]
    unfold setL
    rw [limbN_above _ _ (j + 1) i (hx v hv) (by omega)]
    conv => rhs; rw [split3 V j]
    rw [limbN_above _ _ (j + 1) i (hx _ (limbN_lt V j)) (by omega)]
/-- Twelve words. -/
def limbs12 (a : Nat) : Array Value := #[.int .u64 (limb a 0), .int .u64 (limb a 1), .int .u64 (limb a 2), .int .u64 (limb a 3), .int .u64 (limb a 4), .int .u64 (limb a 5), .int .u64 (limb a 6), .int .u64 (limb a 7), .int .u64 (limb a 8), .int .u64 (limb a 9), .int .u64 (limb a 10), .int .u64 (limb a 11)]
theorem limbs12_size (a : Nat) : (limbs12 a).size = 12 := rfl
theorem limbs12_get (a i : Nat) (h : i < 12) : (limbs12 a)[i]? = some (.int .u64 (limb a i)) := by
  have : i = 0 ∨ i = 1 ∨ i = 2 ∨ i = 3 ∨ i = 4 ∨ i = 5 ∨ i = 6 ∨ i = 7 ∨ i = 8 ∨ i = 9 ∨ i = 10 ∨ i = 11 := by omega
  rcases this with rfl | rfl | rfl | rfl | rfl | rfl | rfl | rfl | rfl | rfl | rfl | rfl <;> rfl
theorem limbs12_set (V j v : Nat) (hj : j < 12) (hv : v < 18446744073709551616) : (limbs12 V).setIfInBounds j (.int .u64 ((v : Nat) : Int)) = limbs12 (setL V j v) := by
  apply Array.ext_getElem?
  intro i
  by_cases hi : i < 12
  · rw [limbs12_get _ i hi, Array.getElem?_setIfInBounds]
    unfold limb
    rw [limbN_setL V j v i hv]
    by_cases h : j = i
    · rw [if_pos h, if_pos (by rw [limbs12_size]; omega), if_pos h.symm]
    · rw [if_neg h, if_neg (fun e => h e.symm)]; exact limbs12_get V i hi
  · rw [Array.getElem?_eq_none (by rw [Array.size_setIfInBounds, limbs12_size]; omega), Array.getElem?_eq_none (by rw [limbs12_size]; omega)]
/-- What stands in the words when k words of b have been multiplied by word i of a. -/
def MulAt (a b i k V c : Nat) : Prop := V + c * 2 ^ (64 * (i + k)) = a % 2 ^ (64 * i) * b + limbN a i * (b % 2 ^ (64 * k)) * 2 ^ (64 * i) ∧ c < 18446744073709551616
/-- A word times a word, and two words more. -/
def macN (x y l c : Nat) : Nat := x * y + l + c
theorem mac_lt (x y l c : Nat) (hx : x < 18446744073709551616) (hy : y < 18446744073709551616) (hl : l < 18446744073709551616) (hc : c < 18446744073709551616) : macN x y l c / 18446744073709551616 < 18446744073709551616 := by
  have h : x * y ≤ 18446744073709551615 * 18446744073709551615 := Nat.mul_le_mul (by omega) (by omega)
  unfold macN
  generalize x * y = p at *
  omega
theorem mul_start (a b i V : Nat) (h : V = a % 2 ^ (64 * i) * b) : MulAt a b i 0 V 0 := by
  refine ⟨?_, by decide⟩
  rw [Nat.mul_zero, Nat.pow_zero, Nat.mod_one, h]; simp
theorem mul_step (a b i k V c : Nat) (h : MulAt a b i k V c) :
    MulAt a b i (k + 1) (setL V (i + k) (macN (limbN a i) (limbN b k) (limbN V (i + k)) c % 18446744073709551616)) (macN (limbN a i) (limbN b k) (limbN V (i + k)) c / 18446744073709551616) := by
  obtain ⟨h1, h2⟩ := h
  refine ⟨?_, mac_lt _ _ _ _ (limbN_lt _ _) (limbN_lt _ _) (limbN_lt _ _) h2⟩
  have hs := setL_sum V (i + k) (macN (limbN a i) (limbN b k) (limbN V (i + k)) c % 18446744073709551616)
  have hd := Nat.div_add_mod (macN (limbN a i) (limbN b k) (limbN V (i + k)) c) 18446744073709551616
  have hm : macN (limbN a i) (limbN b k) (limbN V (i + k)) c = limbN a i * limbN b k + limbN V (i + k) + c := rfl
  generalize setL V (i + k) (macN (limbN a i) (limbN b k) (limbN V (i + k)) c % 18446744073709551616) = V' at *
  rw [show i + (k + 1) = (i + k) + 1 from rfl, pw_succ (i + k), mod_low b k, Nat.mul_add (limbN a i), Nat.add_mul]
  have e1 : limbN a i * (limbN b k * 2 ^ (64 * k)) * 2 ^ (64 * i) = limbN a i * limbN b k * 2 ^ (64 * (i + k)) := by
    rw [Nat.mul_add 64, Nat.pow_add, ← Nat.mul_assoc, Nat.mul_assoc _ (2 ^ (64 * k)), Nat.mul_comm (2 ^ (64 * k))]
  rw [e1]
  generalize limbN a i * (b % 2 ^ (64 * k)) * 2 ^ (64 * i) = Z at *
  generalize a % 2 ^ (64 * i) * b = Y at *
  rw [hm] at hs hd ⊢
  generalize limbN a i * limbN b k = p at *
  generalize limbN V (i + k) = l at *
  generalize 2 ^ (64 * (i + k)) = P at *
  have e2 : (p + l + c) * P = p * P + l * P + c * P := by rw [Nat.add_mul, Nat.add_mul]
  have e3 : (p + l + c) * P = (p + l + c) / 18446744073709551616 * (P * 18446744073709551616) + (p + l + c) % 18446744073709551616 * P := by
    conv => lhs; rw [← hd]
    rw [Nat.add_mul, Nat.mul_comm 18446744073709551616, Nat.mul_assoc, Nat.mul_comm 18446744073709551616]
  generalize (p + l + c) / 18446744073709551616 * (P * 18446744073709551616) = q1 at *
  generalize (p + l + c) % 18446744073709551616 * P = q2 at *
  generalize p * P = pp at *
  generalize l * P = ll at *
  generalize c * P = cc at *
  omega
theorem mul_row (a b i V c : Nat) (h : MulAt a b i 6 V c) (hb : b < top6) (hz : limbN V (i + 6) = 0) : setL V (i + 6) c = a % 2 ^ (64 * (i + 1)) * b := by
  obtain ⟨h1, h2⟩ := h
  have hs := setL_sum V (i + 6) c
  rw [hz, Nat.zero_mul, Nat.add_zero, h1, ← top6, Nat.mod_eq_of_lt hb] at hs
  rw [hs, mod_low, Nat.add_mul, Nat.mul_right_comm]
theorem mul_high (a b i V : Nat) (h : V = a % 2 ^ (64 * i) * b) (hb : b < top6) (j : Nat) (hj : i + 6 ≤ j) : limbN V j = 0 := by
  have h1 : a % 2 ^ (64 * i) < 2 ^ (64 * i) := Nat.mod_lt _ (pw_pos i)
  have h2 : V < 2 ^ (64 * (i + 6)) := by
    rw [h, Nat.mul_add, Nat.pow_add, ← top6]
    rcases Nat.eq_zero_or_pos b with h0 | h0
    · rw [h0, Nat.mul_zero]; exact Nat.mul_pos (pw_pos i) (by unfold top6; exact pw_pos 6)
    · exact Nat.lt_of_lt_of_le ((Nat.mul_lt_mul_right h0).2 h1) (Nat.mul_le_mul_left _ (Nat.le_of_lt hb))
  unfold limbN
  rw [Nat.div_eq_of_lt (Nat.lt_of_lt_of_le h2 (Nat.pow_le_pow_right (by decide) (by omega)))]
/-- The words above stay 0. -/
theorem setL_high (V j v n : Nat) (hv : v < 18446744073709551616) (hj : j < n) (h : ∀ i, n ≤ i → limbN V i = 0) : ∀ i, n ≤ i → limbN (setL V j v) i = 0 := by
  intro i hi
  rw [limbN_setL V j v i hv, if_neg (by omega)]; exact h i hi
/-- The words of a multiplication step, as the code reckons them. -/
theorem mac_words (x y l c : Nat) (hx : x < 18446744073709551616) (hy : y < 18446744073709551616) (hl : l < 18446744073709551616) (hc : c < 18446744073709551616) :
    addW (addW (mulLo (x : Int) y) (l : Int) false) (c : Int) false = ((macN x y l c % 18446744073709551616 : Nat) : Int) ∧
    addW (addW (mulHi (x : Int) y) 0 (carW (mulLo (x : Int) y) (l : Int) false)) 0 (carW (addW (mulLo (x : Int) y) (l : Int) false) (c : Int) false) = ((macN x y l c / 18446744073709551616 : Nat) : Int) := by
  have h : x * y ≤ 18446744073709551615 * 18446744073709551615 := Nat.mul_le_mul (by omega) (by omega)
  unfold mulLo mulHi macN
  rw [Int.toNat_natCast, Int.toNat_natCast]
  generalize x * y = p at *
  unfold addW carW
  simp only [cond_false]
  by_cases h1 : (18446744073709551616 : Int) ≤ ((p % 18446744073709551616 : Nat) : Int) + (l : Int) + 0
  · rw [decide_eq_true h1]
    simp only [cond_true]
    by_cases h2 : (18446744073709551616 : Int) ≤ (((p % 18446744073709551616 : Nat) : Int) + (l : Int) + 0) % 18446744073709551616 + (c : Int) + 0
    · rw [decide_eq_true h2]; simp only [cond_true]; omega
    · rw [decide_eq_false h2]; simp only [cond_false]; omega
  · rw [decide_eq_false h1]
    simp only [cond_false]
    by_cases h2 : (18446744073709551616 : Int) ≤ (((p % 18446744073709551616 : Nat) : Int) + (l : Int) + 0) % 18446744073709551616 + (c : Int) + 0
    · rw [decide_eq_true h2]; simp only [cond_true]; omega
    · rw [decide_eq_false h2]; simp only [cond_false]; omega
theorem pw_mono0 (j i : Nat) (h : j ≤ i) : 2 ^ (64 * j) ≤ 2 ^ (64 * i) := Nat.pow_le_pow_right (by decide) (Nat.mul_le_mul_left 64 h)
theorem top_le_pw (k : Nat) (hk : 6 ≤ k) : top6 ≤ 2 ^ (64 * k) := by rw [top6.eq_1]; exact pw_mono0 6 k hk
theorem over_step (V k : Nat) (hk : 6 ≤ k) : decide (top6 ≤ V % 2 ^ (64 * (k + 1))) = (decide (top6 ≤ V % 2 ^ (64 * k)) || !decide (limbN V k = 0)) := by
  rw [mod_low]
  by_cases h : limbN V k = 0
  · rw [h, Nat.zero_mul, Nat.add_zero]; simp
  · have h1 : top6 ≤ V % 2 ^ (64 * k) + limbN V k * 2 ^ (64 * k) := by
      have : 2 ^ (64 * k) ≤ limbN V k * 2 ^ (64 * k) := Nat.le_mul_of_pos_left _ (Nat.pos_of_ne_zero h)
      have h2 := top_le_pw k hk
      omega
    rw [decide_eq_true h1, decide_eq_false h]; simp
end Go.Proofs.YtdcgcjmajacgiaaDoor

namespace Go.Proofs.YtdcgcjmajacgiaaDoor
/-- The exact sum of two numbers, rounded. -/
def sumX (f m : Nat) (nx : Bool) (sx : Nat) (ex : Int) (ny : Bool) (sy : Nat) (ey : Int) : Nat × Nat :=
  if nx = ny then packB f m nx (sx * 2 ^ (ex - min ex ey).toNat + sy * 2 ^ (ey - min ex ey).toNat) (min ex ey) false
  else if sx * 2 ^ (ex - min ex ey).toNat = sy * 2 ^ (ey - min ex ey).toNat then (zeroN f (decide (m = 2)), 0)
  else if sy * 2 ^ (ey - min ex ey).toNat < sx * 2 ^ (ex - min ex ey).toNat then packB f m nx (sx * 2 ^ (ex - min ex ey).toNat - sy * 2 ^ (ey - min ex ey).toNat) (min ex ey) false
  else packB f m ny (sy * 2 ^ (ey - min ex ey).toNat - sx * 2 ^ (ex - min ex ey).toNat) (min ex ey) false
def addR (f m a b : Nat) : Nat × Nat :=
  if (nanB (clsN f a) || nanB (clsN f b)) = true then canonR f (clsN f a) (clsN f b)
  else if (infB (clsN f a) && infB (clsN f b) && !decide (clsN f a = clsN f b)) = true then (nanN f, 16)
  else if infB (clsN f a) = true then (a, 0)
  else if infB (clsN f b) = true then (b, 0)
  else if (zerB (clsN f a) && zerB (clsN f b)) = true then (if clsN f a = clsN f b then (a, 0) else (zeroN f (decide (m = 2)), 0))
  else if zerB (clsN f a) = true then (b, 0)
  else if zerB (clsN f b) = true then (a, 0)
  else sumX f m (belowN4 (clsN f a)) (sigN f a) (xpN f a) (belowN4 (clsN f b)) (sigN f b) (xpN f b)
/-- A zero of the own sign. -/
theorem add_zero (f m a : Nat) (hf : f < 4) (hc : Fin0 f a ∨ clsN f a = 3 ∨ clsN f a = 4) : addR f m a (zeroN f (negN f a)) = (a, 0) := by
  obtain ⟨z1, z2⟩ := zero_parts f (negN f a) hf
  have hz : clsN f (zeroN f (negN f a)) = 3 ∨ clsN f (zeroN f (negN f a)) = 4 := by rw [z2]; cases negN f a <;> simp
  obtain ⟨b1, b2, b3⟩ := zer_flags f _ hz
  unfold addR
  rw [b1, b2, b3]
  rcases hc with hc | hc
  · obtain ⟨a1, a2, a3⟩ := fin_flags f a hc
    rw [a1, a2, a3]; simp
  · obtain ⟨a1, a2, a3⟩ := zer_flags f a hc
    have he : clsN f a = clsN f (zeroN f (negN f a)) := by
      rw [z2, ← below_neg f a (by omega)]; unfold belowN4; rcases hc with h | h <;> rw [h] <;> rfl
    rw [a1, a2, a3, if_pos he]; simp
end Go.Proofs.YtdcgcjmajacgiaaDoor

namespace Go.Proofs.YtdcgcjmajacgiaaDoor
open Go.RowKit
set_option maxRecDepth 100000 in
theorem walk29 {P : Prop} (h : P := by
  go_wp2_with (first
    | ((with_reducible show wpList _ _ _ (⟨_, .box _ _, _, _, _, _⟩ :: _) _ _); refine H.box rfl rfl (cells_agg _) ?_; (intro g w H; simp only [Act.put, List.setIfInBounds_toArray, List.set_cons_zero, List.set_cons_succ]))
    | ((with_reducible show wpList _ _ _ (⟨_, .alloc 27, _, _, _, _⟩ :: _) _ _); refine H.mk0 rfl rB rfl ?_; (intro g w H; simp only [Act.put, List.setIfInBounds_toArray, List.set_cons_zero, List.set_cons_succ]))
    | ((with_reducible show wpList _ _ _ (⟨_, .load 27 _, _, _, _, _⟩ :: _) _ _); refine H.ld rfl rB rfl rfl (by repeat (first | with_reducible exact List.mem_cons_self | apply List.mem_cons_of_mem)) (by first | with_reducible exact ext_2 _ _) (by rfl) ?_; simp only [Act.put, List.setIfInBounds_toArray, List.set_cons_zero, List.set_cons_succ])
    | ((with_reducible show wpList _ _ _ (⟨_, .store 27 _ _, _, _, _, _⟩ :: _) _ _); refine H.st rfl rB rfl rfl (cells_agg _) (by repeat (first | with_reducible exact Upd.head _ | apply Upd.tail)) (set_bits _ _ _ _) (by rfl) (by exact one_of rfl) (by first | exact ble_le rfl | (change _ + 1 ≤ 12; omega) | (change _ + 1 ≤ 6; omega)) ?_; (intro w H; simp only [Act.put]))
    | ((with_reducible show wpList _ _ _ (⟨_, .load 25 _, _, _, _, _⟩ :: _) _ _); refine H.ld1 rfl oU rfl rfl (by repeat (first | with_reducible exact List.mem_cons_self | apply List.mem_cons_of_mem)) (by first | with_reducible exact get_20 _ _ | with_reducible exact get_21 _ _ | with_reducible exact limbs_o0 _ | with_reducible exact limbs_o1 _ | with_reducible exact limbs_o2 _ | with_reducible exact limbs_o3 _ | with_reducible exact limbs_o4 _ | with_reducible exact limbs_o5 _) ?_; simp only [Act.put, List.setIfInBounds_toArray, List.set_cons_zero, List.set_cons_succ])
    | (go_at_call 22; ((with_reducible refine (cF _).mono ?_); rintro e w ⟨rfl, hb⟩; replace H := H.call hb; clear hb))
    | (go_at_call 19; ((with_reducible refine (cZ _).mono ?_); rintro e w ⟨rfl, hb⟩; replace H := H.call hb; clear hb))
    )
  all_goals (refine bodyPost_ret (results_c rfl rfl (H.res rB (by repeat (first | with_reducible exact List.mem_cons_self | apply List.mem_cons_of_mem)) (by first | with_reducible exact ext_2 _ _) (by rfl))) rfl ⟨?_, H.below⟩; exact rfl)) : P := h
set_option maxHeartbeats 1600000 in
set_option maxRecDepth 100000 in
theorem kindFlip_no (f b : Nat) (w : World) (cF : ∀ w, Calls Tryd.prog 22 #[.int .u8 f, BV b] w fun e w' => e = .returned (.bool false) ∧ Below w.heap.size w w') :
    Calls Tryd.prog 29 #[.int .u8 f, BV b] w fun e w' => e = .returned (.agg #[.int .u64 0, .int .u64 0]) ∧ Below w.heap.size w w' := by
  have H := Own.start w
  go_enter Tryd.func29, Tryd.ntmps29
  exact walk29
set_option maxHeartbeats 1600000 in
set_option maxRecDepth 100000 in
theorem kindFlip_yes (f b z : Nat) (w : World) (cF : ∀ w, Calls Tryd.prog 22 #[.int .u8 f, BV b] w fun e w' => e = .returned (.bool true) ∧ Below w.heap.size w w') (cZ : ∀ w, Calls Tryd.prog 19 #[.int .u8 f, .bool true] w fun e w' => e = .returned (BV z) ∧ Below w.heap.size w w') :
    Calls Tryd.prog 29 #[.int .u8 f, BV b] w fun e w' => e = .returned (.agg #[.int .u64 (Go.bits .xor .u64 (limb b 1) (limb z 1)), .int .u64 (Go.bits .xor .u64 (limb b 0) (limb z 0))]) ∧ Below w.heap.size w w' := by
  have H := Own.start w
  go_enter Tryd.func29, Tryd.ntmps29
  exact walk29
set_option maxRecDepth 100000 in
theorem walk13 {P : Prop} (h : P := by
  go_wp2_with (first
    | ((with_reducible show wpList _ _ _ (⟨_, .box _ _, _, _, _, _⟩ :: _) _ _); refine H.box rfl rfl (cells_agg _) ?_; (intro g w H; simp only [Act.put, List.setIfInBounds_toArray, List.set_cons_zero, List.set_cons_succ]))
    | ((with_reducible show wpList _ _ _ (⟨_, .load 27 _, _, _, _, _⟩ :: _) _ _); refine H.ld rfl rB rfl rfl (by repeat (first | with_reducible exact List.mem_cons_self | apply List.mem_cons_of_mem)) (by first | with_reducible exact ext_2 _ _) (by rfl) ?_; simp only [Act.put, List.setIfInBounds_toArray, List.set_cons_zero, List.set_cons_succ])
    | ((with_reducible show wpList _ _ _ (⟨_, .store 27 _ _, _, _, _, _⟩ :: _) _ _); refine H.st rfl rB rfl rfl (cells_agg _) (by repeat (first | with_reducible exact Upd.head _ | apply Upd.tail)) (by first | with_reducible exact set_all _ _ rfl) (by rfl) (by exact one_of rfl) (by first | exact ble_le rfl | (change _ + 1 ≤ 12; omega) | (change _ + 1 ≤ 6; omega)) ?_; (intro w H; simp only [Act.put]))
    | ((with_reducible show wpList _ _ _ (⟨_, .load 54 _, _, _, _, _⟩ :: _) _ _); refine H.ld rfl rW rfl rfl (by repeat (first | with_reducible exact List.mem_cons_self | apply List.mem_cons_of_mem)) (by first | with_reducible exact ext_limbs _ | with_reducible exact ext_parts_s _ _ _ _ | with_reducible exact ext_rough_s _ _ _ _ | with_reducible exact ext_parts_f _ _ _ _) (by rfl) ?_; simp only [Act.put, List.setIfInBounds_toArray, List.set_cons_zero, List.set_cons_succ])
    | ((with_reducible show wpList _ _ _ (⟨_, .store 54 _ _, _, _, _, _⟩ :: _) _ _); refine H.st rfl rW rfl rfl (cells_agg _) (by repeat (first | with_reducible exact Upd.head _ | apply Upd.tail)) (by first | with_reducible exact set_zero6 _ rfl | with_reducible exact set_all _ _ rfl | with_reducible exact set_parts_s _ _ _ _ _ | with_reducible exact set_rough_s _ _ _ _ _ | with_reducible exact set_parts_f _ _ _ _ _) (by rfl) (by exact one_of rfl) (by first | exact ble_le rfl | (change _ + 1 ≤ 12; omega) | (change _ + 1 ≤ 6; omega)) ?_; (intro w H; simp only [Act.put]))
    | (go_at_call 22; ((with_reducible refine (cF _).mono ?_); rintro e w ⟨rfl, hb⟩; replace H := H.call hb; clear hb))
    | (go_at_call 40; ((with_reducible refine (cO _).mono ?_); rintro e w ⟨rfl, hb⟩; replace H := H.call hb; clear hb))
    | (go_at_call 41; ((with_reducible refine (cW _).mono ?_); rintro e w ⟨rfl, hb⟩; replace H := H.call hb; clear hb))
    | (go_at_call 39; ((with_reducible refine (cB _).mono ?_); rintro e w ⟨rfl, hb⟩; replace H := H.call hb; clear hb))
    )
  all_goals (go_ret; exact ⟨rfl, H.below⟩)) : P := h
set_option maxHeartbeats 1600000 in
set_option maxRecDepth 100000 in
theorem kindSign_no (f b : Nat) (w : World) (cF : ∀ w, Calls Tryd.prog 22 #[.int .u8 f, BV b] w fun e w' => e = .returned (.bool false) ∧ Below w.heap.size w w') :
    Calls Tryd.prog 13 #[.int .u8 f, BV b] w fun e w' => e = .returned (.bool false) ∧ Below w.heap.size w w' := by
  have H := Own.start w
  go_enter Tryd.func13, Tryd.ntmps13
  exact walk13
set_option maxHeartbeats 1600000 in
set_option maxRecDepth 100000 in
theorem kindSign_yes (f b n : Nat) (t : Bool) (w : World) (hn : 1 ≤ n) (hn2 : n ≤ 128) (cF : ∀ w, Calls Tryd.prog 22 #[.int .u8 f, BV b] w fun e w' => e = .returned (.bool true) ∧ Below w.heap.size w w') (cO : ∀ w, Calls Tryd.prog 40 #[BV b] w fun e w' => e = .returned (W b) ∧ Below w.heap.size w w') (cW : ∀ w, Calls Tryd.prog 41 #[.int .u8 f] w fun e w' => e = .returned (.int .i64 (n : Nat)) ∧ Below w.heap.size w w') (cB : ∀ w, Calls Tryd.prog 39 #[W b, .int .i64 ((n : Int) - 1)] w fun e w' => e = .returned (.bool t) ∧ Below w.heap.size w w') :
    Calls Tryd.prog 13 #[.int .u8 f, BV b] w fun e w' => e = .returned (.bool t) ∧ Below w.heap.size w w' := by
  have H := Own.start w
  go_enter Tryd.func13, Tryd.ntmps13
  exact walk13
end Go.Proofs.YtdcgcjmajacgiaaDoor

namespace Go.Proofs.YtdcgcjmajacgiaaDoor
open Go.RowKit
theorem limbN_xor (a b i : Nat) : limbN (a ^^^ b) i = limbN a i ^^^ limbN b i := by
  unfold limbN; rw [B64, Nat.xor_div_two_pow, Nat.xor_mod_two_pow]
theorem limb_xor (a b i : Nat) : Go.bits .xor .u64 (limb a i) (limb b i) = limb (a ^^^ b) i := by
  unfold limb; rw [u64_xor_nat _ _ (limbN_lt a i) (limbN_lt b i), limbN_xor]
theorem xor_top (x n : Nat) (h : x < 2 ^ n) : x ^^^ 2 ^ n = x + 2 ^ n := by
  have h1 : 2 ^ n ||| x = 2 ^ n + x := by
    have := Nat.two_pow_add_eq_or_of_lt h 1
    rw [Nat.mul_one] at this; exact this.symm
  rw [Nat.add_comm, ← h1]
  apply Nat.eq_of_testBit_eq
  intro i
  rw [Nat.testBit_xor, Nat.testBit_or, Nat.testBit_two_pow]
  by_cases hi : n = i
  · subst hi; rw [Nat.testBit_lt_two_pow h]; simp
  · simp [hi]
theorem flip_xor (f b : Nat) (h : fitsB f b = true) : b ^^^ zeroN f true = flipN f b := by
  obtain ⟨hf, hb⟩ := (fits_iff f b).1 h
  obtain ⟨h1, h2, h3, -⟩ := formK f hf
  have hz : zeroN f true = 2 ^ (wF f - 1) := by unfold zeroN signN; rw [decide_eq_true hf]; rfl
  have hm := mkN_of f b h
  have ht := Nat.mod_lt b (two_pos (pF f - 1))
  have he := expN_lt f b hf
  have hbase : expN f b * 2 ^ (pF f - 1) + b % 2 ^ (pF f - 1) < 2 ^ (wF f - 1) := by
    rw [h2, Nat.pow_add, h3, Nat.mul_comm (2 ^ (pF f - 1))]
    have : (expN f b + 1) * 2 ^ (pF f - 1) ≤ (2 * eF f + 2) * 2 ^ (pF f - 1) := Nat.mul_le_mul_right _ (by omega)
    rw [Nat.add_mul] at this; omega
  unfold flipN mkN
  rw [h, cond_true, hz]
  unfold mkN at hm
  unfold negN
  generalize expN f b * 2 ^ (pF f - 1) + b % 2 ^ (pF f - 1) = x at *
  have hx := xor_top x (wF f - 1) hbase
  cases hs : b.testBit (wF f - 1)
  · rw [hs] at hm
    have : b = x := by rw [← hm]; rfl
    rw [this, hx]; rfl
  · rw [hs] at hm
    have : b = x + 2 ^ (wF f - 1) := by rw [← hm]; rfl
    rw [this, ← hx, Nat.xor_assoc, Nat.xor_self, Nat.xor_zero]; rfl
theorem kindFlip_any (f b : Nat) (w : World) (hf : f < 256) (hb : b < 2 ^ (64 * 2)) :
    Calls Tryd.prog 29 #[.int .u8 f, BV b] w fun e w' => e = .returned (BV (flipN f b)) ∧ Below w.heap.size w w' := by
  have cF := fun w => shapeFits_any f b w hb
  cases h : fitsB f b
  · rw [h] at cF
    have e : flipN f b = 0 := by unfold flipN; rw [h]; rfl
    rw [e, show BV 0 = .agg #[.int .u64 (limb 0 1), .int .u64 (limb 0 0)] from rfl, limb_zero, limb_zero]
    exact kindFlip_no f b w cF
  · rw [h] at cF
    have cZ := fun w => shapeZero_any f true w hf
    refine (kindFlip_yes f b _ w cF cZ).mono ?_
    rintro e w' ⟨rfl, hb⟩
    refine ⟨?_, hb⟩
    rw [limb_xor, limb_xor, flip_xor f b h]
theorem kindSign_any (f b : Nat) (w : World) (hf : f < 256) (hb : b < 2 ^ (64 * 2)) :
    Calls Tryd.prog 13 #[.int .u8 f, BV b] w fun e w' => e = .returned (.bool (fitsB f b && negN f b)) ∧ Below w.heap.size w w' := by
  have cF := fun w => shapeFits_any f b w hb
  cases h : fitsB f b
  · rw [h] at cF
    exact kindSign_no f b w cF
  · rw [h] at cF
    obtain ⟨hf4, -⟩ := (fits_iff f b).1 h
    obtain ⟨-, -, h3, h4, -⟩ := formB f hf4
    have cT := fun w => wideBit_any b ((wF f : Int) - 1) w
    rw [show (wF f : Int) - 1 = ((wF f - 1 : Nat) : Int) by omega, bitI_in b _ (lt_top_bits b hb), show ((wF f - 1 : Nat) : Int) = (wF f : Int) - 1 by omega] at cT
    exact kindSign_yes f b (wF f) _ w (by omega) (by omega) cF (fun w => wideOfBits_any b w hb) (fun w => shapeWidth_any f w hf) cT
end Go.Proofs.YtdcgcjmajacgiaaDoor

namespace Go.Proofs.YtdcgcjmajacgiaaDoor
open Go.RowKit
section
variable {P : Program} {w : World} {op : Oper} {a : Act} {Q : Exit → Act → World → Prop} {ops : Array Oper} {rest : List Oper}
theorem run_build {t : TypeId} {n : Nat} {z : Array Value} {fs : Array Field} {places : Array (Nat × Nat)} (R : IsRow P t n z) (hu : P.underlying t = some (.struct fs))
    (hp : (fs.mapM fun f => do pure (f.offset, ← sizeOf f.type) : Sem (Array (Nat × Nat))).run P w = .ok places w) (ps : Array (Nat × Value)) (cs : Array Value) (hf : Instr.fill (places[·]?) z ps.toList = some cs) :
    (Instr.build t ps).run P w = .ok (.agg cs) w := by
  have hz := run_zeroValue R.zero w
  unfold Instr.build
  simp only [Sem.run_bind, hz, Result.andThen_ok, run_underlying hu, hp, Value.cells, hf]
  rfl
theorem fill_step (place : Nat → Option (Nat × Nat)) (cells : Array Value) (i off size : Nat) (v : Value) (rest : List (Nat × Value)) (hp : place i = some (off, size)) (h1 : v.cells.size = size) (h2 : off + size ≤ cells.size) :
    Instr.fill place cells ((i, v) :: rest) = Instr.fill place (setRow cells off v.cells.toList) rest := by
  rw [Instr.fill]
  simp only [hp]
  rw [if_neg (by simp [h1]; omega), foldl_cells]
theorem wp_bld {t : TypeId} {ps : Array (Nat × Operand)} (hw : Region.wanted op (yielded ops a.tmps) = true) (ho : op.op = .build t ps) {vs : Array (Nat × Value)} (hvs : (ps.map fun (i, x) => (i, a.eval x)) = vs) {v : Value}
    (hv : ∀ w, (Instr.build t vs).run P w = .ok v w) (h : wpList P ops Q rest (a.put op.dst v) w) : wpList P ops Q (op :: rest) a w := by
  refine wp_wanted hw fun K hK => ?_
  subst hvs
  have hk := hK _ _ h
  unfold Oper.wp execOp
  simp only [ho, Sem.run_bind, hv, Result.andThen_ok]
  exact hk
theorem wp_bld3 {t : TypeId} {i j k : Nat} {x y z : Operand} (hw : Region.wanted op (yielded ops a.tmps) = true) (ho : op.op = .build t #[(i, x), (j, y), (k, z)]) {u1 u2 u3 : Value} (h1 : a.eval x = u1) (h2 : a.eval y = u2) (h3 : a.eval z = u3) {v : Value}
    (hv : ∀ w, (Instr.build t #[(i, u1), (j, u2), (k, u3)]).run P w = .ok v w) (h : wpList P ops Q rest (a.put op.dst v) w) : wpList P ops Q (op :: rest) a w :=
  wp_bld hw ho (by simp [h1, h2, h3]) hv h
theorem exec_bld {t : TypeId} {ps : Array (Nat × Operand)} (ho : op.op = .build t ps) {vs : Array (Nat × Value)} (hvs : (ps.map fun (i, x) => (i, a.eval x)) = vs) {v : Value}
    (hv : ∀ w, (Instr.build t vs).run P w = .ok v w) (w : World) : (execOp a.eval op).run P w = .ok (.value v) w := by
  subst hvs
  unfold execOp
  simp only [ho, Sem.run_bind, hv, Result.andThen_ok]
  rfl
theorem exec_bld3 {t : TypeId} {i j k : Nat} {x y z : Operand} (ho : op.op = .build t #[(i, x), (j, y), (k, z)]) {u1 u2 u3 : Value} (h1 : a.eval x = u1) (h2 : a.eval y = u2) (h3 : a.eval z = u3) {v : Value}
    (hv : ∀ w, (Instr.build t #[(i, u1), (j, u2), (k, u3)]).run P w = .ok v w) (w : World) : (execOp a.eval op).run P w = .ok (.value v) w := exec_bld ho (by simp [h1, h2, h3]) hv w
end
/-- Where the parts of a rough number lie. -/
def roughAt : Array (Nat × Nat) := #[(0, 1), (1, 6), (7, 1), (8, 1)]
theorem rough_0 (neg : Bool) (s : Nat) (e : Int) (mo neg' : Bool) (rest : List (Nat × Value)) : Instr.fill (roughAt[·]?) (rough neg s e mo) ((0, .bool neg') :: rest) = Instr.fill (roughAt[·]?) (rough neg' s e mo) rest := fill_step _ _ 0 0 1 _ _ rfl rfl (show 0 + 1 ≤ 9 by decide)
theorem rough_1 (neg : Bool) (s : Nat) (e : Int) (mo : Bool) (s' : Nat) (rest : List (Nat × Value)) : Instr.fill (roughAt[·]?) (rough neg s e mo) ((1, W s') :: rest) = Instr.fill (roughAt[·]?) (rough neg s' e mo) rest := fill_step _ _ 1 1 6 _ _ rfl rfl (show 1 + 6 ≤ 9 by decide)
theorem rough_2 (neg : Bool) (s : Nat) (e : Int) (mo : Bool) (e' : Int) (rest : List (Nat × Value)) : Instr.fill (roughAt[·]?) (rough neg s e mo) ((2, .int .i64 e') :: rest) = Instr.fill (roughAt[·]?) (rough neg s e' mo) rest := fill_step _ _ 2 7 1 _ _ rfl rfl (show 7 + 1 ≤ 9 by decide)
theorem rough_3 (neg : Bool) (s : Nat) (e : Int) (mo mo' : Bool) (rest : List (Nat × Value)) : Instr.fill (roughAt[·]?) (rough neg s e mo) ((3, .bool mo') :: rest) = Instr.fill (roughAt[·]?) (rough neg s e mo') rest := fill_step _ _ 3 8 1 _ _ rfl rfl (show 8 + 1 ≤ 9 by decide)
theorem places_rough (w : World) : ∃ fs, Tryd.prog.underlying 57 = some (.struct fs) ∧ (fs.mapM fun f => do pure (f.offset, ← sizeOf f.type) : Sem (Array (Nat × Nat))).run Tryd.prog w = .ok roughAt w := by
  refine ⟨_, Tryd.underlying57, ?_⟩
  unfold roughAt
  go_simp
theorem run_rough (w : World) (ps : Array (Nat × Value)) (cs : Array Value) (hf : Instr.fill (roughAt[·]?) (rough false 0 0 false) ps.toList = some cs) : (Instr.build 57 ps).run Tryd.prog w = .ok (.agg cs) w := by
  obtain ⟨fs, hu, hp⟩ := places_rough w
  exact run_build rR hu hp ps cs hf
theorem rough_nse (neg : Bool) (s : Nat) (e : Int) (w : World) : (Instr.build 57 #[(0, .bool neg), (1, W s), (2, .int .i64 e)]).run Tryd.prog w = .ok (RV neg s e false) w :=
  run_rough w _ _ (by show Instr.fill _ _ [_, _, _] = _; rw [rough_0, rough_1, rough_2]; rfl)
theorem rough_sem (s : Nat) (e : Int) (mo : Bool) (w : World) : (Instr.build 57 #[(1, W s), (2, .int .i64 e), (3, .bool mo)]).run Tryd.prog w = .ok (RV false s e mo) w :=
  run_rough w _ _ (by show Instr.fill _ _ [_, _, _] = _; rw [rough_1, rough_2, rough_3]; rfl)
end Go.Proofs.YtdcgcjmajacgiaaDoor

namespace Go.Proofs.YtdcgcjmajacgiaaDoor
theorem sq2 (r : Nat) : (2 * r) * (2 * r) = 4 * (r * r) := by rw [Nat.mul_mul_mul_comm]
theorem sq21 (r : Nat) : (2 * r + 1) * (2 * r + 1) = 4 * (r * r) + 4 * r + 1 := by
  rw [Nat.mul_add, Nat.add_mul, sq2]; omega
theorem sq1 (r : Nat) : (r + 1) * (r + 1) = r * r + 2 * r + 1 := by rw [Nat.mul_add, Nat.add_mul]; omega
/-- A round of the root: the digits from i on. -/
theorem sqrt_round (a i : Nat) (rest : Nat) (hr : rest = a / 2 ^ (i + 2) - isq (a / 2 ^ (i + 2)) * isq (a / 2 ^ (i + 2))) :
    (4 * rest + a / 2 ^ i % 4 < 4 * isq (a / 2 ^ (i + 2)) + 1 → isq (a / 2 ^ i) = 2 * isq (a / 2 ^ (i + 2)) ∧ a / 2 ^ i - isq (a / 2 ^ i) * isq (a / 2 ^ i) = 4 * rest + a / 2 ^ i % 4) ∧
    (4 * isq (a / 2 ^ (i + 2)) + 1 ≤ 4 * rest + a / 2 ^ i % 4 → isq (a / 2 ^ i) = 2 * isq (a / 2 ^ (i + 2)) + 1 ∧ a / 2 ^ i - isq (a / 2 ^ i) * isq (a / 2 ^ i) = 4 * rest + a / 2 ^ i % 4 - (4 * isq (a / 2 ^ (i + 2)) + 1)) := by
  have hd : a / 2 ^ i % 4 < 4 := Nat.mod_lt _ (by decide)
  have hs := quart_bit a i
  generalize a / 2 ^ i % 4 = d at *
  rw [hs]
  generalize a / 2 ^ (i + 2) = A at *
  have h1 := isq_le A
  have h2 := isq_gt A
  rw [sq1] at h2
  generalize isq A = r at *
  constructor
  · intro h
    have e : isq (4 * A + d) = 2 * r := isq_unique _ _ (by rw [sq2]; omega) (by rw [sq21]; omega)
    rw [e, sq2]; exact ⟨rfl, by omega⟩
  · intro h
    have e : isq (4 * A + d) = 2 * r + 1 := isq_unique _ _ (by rw [sq21]; omega) (by rw [sq1, sq21]; omega)
    rw [e, sq21]; exact ⟨rfl, by omega⟩
theorem isq_rest (A : Nat) : A - isq A * isq A ≤ 2 * isq A := by
  have h2 := isq_gt A
  rw [sq1] at h2; omega
theorem isq_zero : isq 0 = 0 := rfl
theorem isq_lt (A k : Nat) (h : A < 2 ^ (k + k)) : isq A < 2 ^ k := by
  rcases Nat.lt_or_ge (isq A) (2 ^ k) with hl | hl
  · exact hl
  · have h1 := isq_le A
    have h2 := Nat.mul_le_mul hl hl
    rw [← Nat.pow_add] at h2; omega
end Go.Proofs.YtdcgcjmajacgiaaDoor

namespace Go.Proofs.YtdcgcjmajacgiaaDoor
open Go.RowKit
theorem subW_nat (x y d : Nat) (c : Bool) (hx : x < 18446744073709551616) (hy : y < 18446744073709551616) (hd : d < 18446744073709551616) (h : (d + y + c.toNat) % 18446744073709551616 = x) : subW (x : Int) (y : Int) c = (d : Int) := by
  unfold subW; cases c <;> simp at h ⊢ <;> omega
theorem borW_nat (x y d : Nat) (c : Bool) (hx : x < 18446744073709551616) (hy : y < 18446744073709551616) (hd : d < 18446744073709551616) (h : (d + y + c.toNat) % 18446744073709551616 = x) : borW (x : Int) (y : Int) c = decide (18446744073709551616 ≤ d + y + c.toNat) := by
  unfold borW; rw [Bool.eq_iff_iff, decide_eq_true_iff, decide_eq_true_iff]; cases c <;> simp at h ⊢ <;> omega
/-- The difference, as a number of 384 bits. -/
def subN (a b : Nat) : Nat := a + top6 - b
theorem limbN_top (a i : Nat) (h : i < 6) : limbN (a + top6) i = limbN a i := by
  have e : top6 = 2 ^ (64 * i) * (18446744073709551616 * 2 ^ (64 * (5 - i))) := by
    unfold top6
    rw [show 64 * 6 = 64 * i + (64 + 64 * (5 - i)) by omega, Nat.pow_add, Nat.pow_add]
  unfold limbN
  rw [e, Nat.add_mul_div_left _ _ (pw_pos i), Nat.add_mul_mod_self_left]
theorem sub_word (a b k : Nat) (hb : b < top6) (hk : k < 6) : (limbN (subN a b) k + limbN b k + (cbit (subN a b) b k).toNat) % 18446744073709551616 = limbN a k := by
  have h1 := sum_step (subN a b) b k
  rw [mod_low] at h1
  have e : subN a b + b = a + top6 := by unfold subN; omega
  have h2 : limbN (subN a b + b) k = limbN a k := by rw [e, limbN_top a k hk]
  rw [← h2]
  have h3 : limbN (subN a b + b) k * 2 ^ (64 * k) = (limbN (subN a b) k + limbN b k + (cbit (subN a b) b k).toNat) % 18446744073709551616 * 2 ^ (64 * k) := by omega
  exact (Nat.eq_of_mul_eq_mul_right (pw_pos k) h3).symm
theorem limbs_sub (a b : Nat) (h : b ≤ a) : limbs (subN a b) = limbs (a - b) := by
  apply limbs_eq
  intro i hi
  rw [← limbN_top (a - b) i hi]
  unfold subN
  rw [show a + top6 - b = a - b + top6 by omega]
theorem sub_limb (a b k : Nat) (cb : Bool) (hb : b < top6) (hk : k < 6) (h : cbit (subN a b) b k = cb) : subW (limb a k) (limb b k) cb = limb (subN a b) k := by
  unfold limb
  exact subW_nat _ _ _ _ (limbN_lt a k) (limbN_lt b k) (limbN_lt _ k) (by rw [← h]; exact sub_word a b k hb hk)
theorem sub_borrow (a b k : Nat) (cb : Bool) (hb : b < top6) (hk : k < 6) (h : cbit (subN a b) b k = cb) : cbit (subN a b) b (k + 1) = borW (limb a k) (limb b k) cb := by
  unfold limb
  rw [borW_nat _ _ _ _ (limbN_lt a k) (limbN_lt b k) (limbN_lt _ k) (by rw [← h]; exact sub_word a b k hb hk), cbit_step, h]
set_option maxHeartbeats 1600000 in
set_option maxRecDepth 100000 in
theorem wideSub_any (a b : Nat) (w : World) (hbt : b < top6) :
    Calls Tryd.prog 52 #[W a, W b] w fun e w' => e = .returned (.tuple #[W (subN a b), .bool (cbit (subN a b) b 6)]) ∧ Below w.heap.size w w' := by
  have HT := Lib.hid hbt
  clear hbt
  have sa := limbs_size a
  have sb := limbs_size b
  go_enter Tryd.func52, Tryd.ntmps52
  go_wp2_with fail
  go_loopw [5, 7] (fun c i wr => ∃ (k : Nat) (cb : Bool), k ≤ 6 ∧ i = .int .i64 k ∧ c = .bool cb ∧ Hid (cbit (subN a b) b k = cb) ∧
      Blk 54 wr w.heap.size (limbs a) ∧ Blk 54 wr (w.heap.size + 1) (limbs b) ∧
      Blk 54 wr (w.heap.size + 1 + 1) (fillTo (limbs 0) (fun i => .int .u64 (limb (subN a b) i)) k) ∧ Below w.heap.size w wr) (fun _ i _ => 6 - (intOf i).toNat)
  case atStart =>
    refine ⟨0, false, by omega, rfl, rfl, cbit_zero _ b, ((Blk.new w _).alloc _).alloc _, ?_, ?_, ((((Below.refl _ _).alloc (Nat.le_refl _) _).alloc (by simp) _).alloc (by simp <;> omega) _)⟩
    · have := (Blk.new (T := 54) (w.alloc (.cells (limbs a) 54)) (limbs b)).alloc (.cells #[.int .u64 0, .int .u64 0, .int .u64 0, .int .u64 0, .int .u64 0, .int .u64 0] 54)
      simpa using this
    · have := Blk.new (T := 54) ((w.alloc (.cells (limbs a) 54)).alloc (.cells (limbs b) 54)) #[.int .u64 0, .int .u64 0, .int .u64 0, .int .u64 0, .int .u64 0, .int .u64 0]
      rw [fillTo, limbs_zero]
      simpa using this
  case round =>
    obtain ⟨k, cb, hk, rfl, rfl, hc, ha, hb, hs, hbel⟩ := hrel
    by_cases hlt : k < 6
    · have ca := ha.cell k (limbs_get a k hlt)
      have cb' := hb.cell k (limbs_get b k hlt)
      have cs := hs.cell k ((fillTo_hi _ _ k k (Nat.le_refl _)).trans (limbs_get 0 k hlt))
      have fs := hs.free k
      go_wp2_with fail
      go_region_with (go_at_call 103; refine (wordSub_any _ _ _ _ (limb_w a k) (limb_w b k)).mono ?_; rintro e w' ⟨rfl, rfl⟩)
      all_goals go_wp2
      all_goals
        go_roundw
        case rel => exact ⟨k + 1, _, by omega, by go_num, rfl, sub_borrow a b k cb HT.out (by omega) hc.out, (ha.other _ _ (by simp; omega)).drew, (hb.other _ _ (by simp)).drew, (hs.set k _ (by rw [sub_limb a b k cb HT.out (by omega) hc.out]; rfl)).drew, (hbel.setCell (by simp; omega) _).drew⟩
        case measure => simp [intOf]; omega
    · have : k = 6 := by omega
      subst this
      rw [fillTo_all (limbs 0) _ (subN a b) rfl (fun i _ => rfl)] at hs
      have c0 := hs.cell 0 (limbs_get _ 0 (by decide))
      have c1 := hs.cell 1 (limbs_get _ 1 (by decide))
      have c2 := hs.cell 2 (limbs_get _ 2 (by decide))
      have c3 := hs.cell 3 (limbs_get _ 3 (by decide))
      have c4 := hs.cell 4 (limbs_get _ 4 (by decide))
      have c5 := hs.cell 5 (limbs_get _ 5 (by decide))
      have f0 := hs.free 0
      have f1 := hs.free 1
      have f2 := hs.free 2
      have f3 := hs.free 3
      have f4 := hs.free 4
      have f5 := hs.free 5
      clear ha hb hlt
      go_wp2_with fail
      rw [hs.keep 0 _ (limbs_get _ 0 (by decide)), hs.keep 1 _ (limbs_get _ 1 (by decide)), hs.keep 2 _ (limbs_get _ 2 (by decide)), hs.keep 3 _ (limbs_get _ 3 (by decide)), hs.keep 4 _ (limbs_get _ 4 (by decide)), hs.keep 5 _ (limbs_get _ 5 (by decide))]
      refine bodyPost_ret (v := .tuple #[W (subN a b), .bool cb]) (by simp [results, Tryd.results52, go_sem, c0, c1, c2, c3, c4, c5, limbs]) rfl ⟨by rw [hc.out], hbel⟩
end Go.Proofs.YtdcgcjmajacgiaaDoor

namespace Go.Proofs.YtdcgcjmajacgiaaDoor
open Go.RowKit
theorem div_step (a k : Nat) : a / 2 ^ (64 * k) = a / 2 ^ (64 * (k + 1)) * 18446744073709551616 + limbN a k := by
  unfold limbN
  rw [pw_succ, ← Nat.div_div_eq_div_mul]
  have := Nat.div_add_mod (a / 2 ^ (64 * k)) 18446744073709551616
  omega
theorem cmp_less (a b k : Nat) (h : a / 2 ^ (64 * (k + 1)) = b / 2 ^ (64 * (k + 1))) (hl : limbN a k < limbN b k) : a < b := by
  have h1 := div_step a k
  have h2 := div_step b k
  rw [h] at h1
  rcases Nat.lt_or_ge a b with hab | hab
  · exact hab
  · have := Nat.div_le_div_right (c := 2 ^ (64 * k)) hab
    omega
theorem cmp_same (a b k : Nat) (h : a / 2 ^ (64 * (k + 1)) = b / 2 ^ (64 * (k + 1))) (hl : limbN a k = limbN b k) : a / 2 ^ (64 * k) = b / 2 ^ (64 * k) := by
  rw [div_step a k, div_step b k, h, hl]
def EqFrom (a b k : Nat) : Prop := a / 2 ^ (64 * k) = b / 2 ^ (64 * k)
theorem eqFrom6 {a b : Nat} (ha : a < top6) (hb : b < top6) : EqFrom a b 6 := by
  unfold top6 at ha hb
  unfold EqFrom
  rw [Nat.div_eq_of_lt ha, Nat.div_eq_of_lt hb]
theorem below_drewN {B : Nat} {w w' : World} (h : Below B w w') (n : Nat) : Below B w (w'.drewN n) := ⟨h.os, h.tape, h.output, h.size, h.block⟩
theorem limb_lt (a b k : Nat) : limb a k < limb b k ↔ limbN a k < limbN b k := by unfold limb; omega
set_option maxHeartbeats 1600000 in
set_option maxRecDepth 100000 in
theorem wideCmp_any (a b : Nat) (w : World) (ha : a < top6) (hb : b < top6) :
    Calls Tryd.prog 38 #[W a, W b] w fun e w' => e = .returned (.int .i64 (cmpN a b)) ∧ Below w.heap.size w w' := by
  have sa := limbs_size a
  have sb := limbs_size b
  have E6 := eqFrom6 ha hb
  clear ha hb
  go_enter Tryd.func38, Tryd.ntmps38
  go_wp2_with fail
  go_loopw [5] (fun i wr => ∃ k : Nat, k ≤ 6 ∧ i = .int .i64 ((k : Int) - 1) ∧ EqFrom a b k ∧ Blk 54 wr w.heap.size (limbs a) ∧ Blk 54 wr (w.heap.size + 1) (limbs b) ∧ Below w.heap.size w wr) (fun i _ => (intOf i + 1).toNat)
  case atStart =>
    refine ⟨6, by omega, rfl, E6, (Blk.new w _).alloc _, ?_, ((Below.refl _ _).alloc (Nat.le_refl _) _).alloc (by simp) _⟩
    have := Blk.new (T := 54) (w.alloc (.cells (limbs a) 54)) (limbs b)
    simpa using this
  case round =>
    obtain ⟨k, hk, rfl, hE, hA, hB, hbel⟩ := hrel
    cases k with
    | zero =>
      have Z := Lib.hid (show (0 : Int) = cmpN a b by
        have : a = b := by have := hE; unfold EqFrom at this; simpa using this
        unfold cmpN; rw [if_neg (by omega), if_neg (by omega)])
      clear hE
      go_wp2_with fail
      go_ret
      exact ⟨ret_int Z.out, hbel⟩
    | succ j =>
      have ca := hA.cell j (limbs_get a j (by omega))
      have cb := hB.cell j (limbs_get b j (by omega))
      rw [show ((j + 1 : Nat) : Int) - 1 = (j : Int) by omega]
      by_cases h1 : limb a j < limb b j
      · have Z := Lib.hid (show (-1 : Int) = cmpN a b by
          have := cmp_less a b j hE ((limb_lt a b j).1 h1)
          unfold cmpN; rw [if_pos this])
        have d1 : decide (limb a j < limb b j) = true := decide_eq_true h1
        clear hE
        go_wp2_with fail
        go_quiet (fail)
        go_wp2_with fail
        go_ret
        exact ⟨ret_int Z.out, below_drewN hbel _⟩
      · have d1 : decide (limb a j < limb b j) = false := decide_eq_false h1
        by_cases h2 : limb b j < limb a j
        · have Z := Lib.hid (show (1 : Int) = cmpN a b by
            have := cmp_less b a j hE.symm ((limb_lt b a j).1 h2)
            unfold cmpN; rw [if_neg (by omega), if_pos this])
          have d2 : decide (limb b j < limb a j) = true := decide_eq_true h2
          clear hE h1
          go_wp2_with fail
          go_quiet (fail)
          go_wp2_with fail
          go_quiet (fail)
          go_wp2_with fail
          go_ret
          exact ⟨ret_int Z.out, below_drewN (below_drewN hbel _) _⟩
        · have d2 : decide (limb b j < limb a j) = false := decide_eq_false h2
          have S : EqFrom a b j := cmp_same a b j hE (by unfold limb at h1 h2; omega)
          clear hE h1 h2
          go_wp2_with fail
          go_quiet (fail)
          go_wp2_with fail
          go_quiet (fail)
          go_wp2_with fail
          go_roundw
          case rel => exact ⟨j, by omega, rfl, S, hA, hB, below_drewN hbel _⟩
          case measure => simp [intOf]
end Go.Proofs.YtdcgcjmajacgiaaDoor

namespace Go.Proofs.YtdcgcjmajacgiaaDoor
open Go.RowKit
theorem top6_pow (n : Nat) (h : n = 64 * 6) : top6 = 2 ^ n := by subst h; exact top6.eq_1
theorem dbl_or (R : Nat) : R * 2 ||| 1 = 2 * R + 1 := by rw [or_one]; omega
theorem set_two (r a m qi s : Nat) (hm : m = 64 * qi + s) (hs : s + 2 ≤ 64) : setRow (limbs (r * 2 ^ 2)) 0 (#[.int .u64 (Go.bits .or .u64 (limb (r * 2 ^ 2) 0) (Go.bits .and .u64 (limb a qi / 2 ^ s) 3))] : Array Value).toList = limbs (r * 2 ^ 2 ||| a / 2 ^ m % 4) := by
  have hd : a / 2 ^ m % 4 < 4 := Nat.mod_lt _ (by decide)
  have e1 : limb a qi / 2 ^ s = ((limbN a qi / 2 ^ s : Nat) : Int) := limb_shr a qi s
  have e2 : limbN a qi / 2 ^ s % 4 = a / 2 ^ m % 4 := by
    unfold limbN
    rw [hm, Nat.pow_add, ← Nat.div_div_eq_div_mul]
    generalize a / 2 ^ (64 * qi) = x
    have hp : (18446744073709551616 : Nat) = 2 ^ s * (4 * 2 ^ (64 - s - 2)) := by
      rw [show (4 : Nat) = 2 ^ 2 from rfl, ← Nat.pow_add, ← Nat.pow_add, B64]; congr 1; omega
    rw [hp, Nat.mod_mul_right_div_self, Nat.mod_mul_right_mod]
  have hlt : limbN a qi / 2 ^ s < 18446744073709551616 := Nat.lt_of_le_of_lt (Nat.div_le_self _ _) (limbN_lt a qi)
  have e3 : Go.bits .and .u64 (limb a qi / 2 ^ s) 3 = ((a / 2 ^ m % 4 : Nat) : Int) := by
    rw [e1, show (3 : Int) = ((3 : Nat) : Int) from rfl, u64_and_nat _ _ hlt (by decide), ← e2]
    congr 1
    exact Nat.and_two_pow_sub_one_eq_mod _ 2
  rw [e3]
  generalize a / 2 ^ m % 4 = d at *
  have e4 : limb d 0 = ((d : Nat) : Int) := by unfold limb limbN; rw [Nat.mul_zero, Nat.pow_zero, Nat.div_one, Nat.mod_eq_of_lt (by omega)]
  have e5 : ∀ j, 1 ≤ j → limb d j = 0 := by
    intro j hj; unfold limb limbN
    rw [Nat.div_eq_of_lt (Nat.lt_of_lt_of_le hd (Nat.le_trans (show 4 ≤ 2 ^ (64 * 1) by decide) (pw_mono0 1 j hj)))]; rfl
  rw [← e4, limb_or]
  have key : ∀ j, 1 ≤ j → limb (r * 2 ^ 2 ||| d) j = limb (r * 2 ^ 2) j := by
    intro j hj
    rw [← limb_or, e5 j hj]
    unfold limb
    rw [show (0 : Int) = ((0 : Nat) : Int) from rfl, u64_or_nat _ _ (limbN_lt _ j) (by decide), Nat.or_zero]
  show #[_, _, _, _, _, _] = limbs _
  unfold limbs
  rw [key 1 (by decide), key 2 (by decide), key 3 (by decide), key 4 (by decide), key 5 (by decide)]
theorem set_two_d (r a m qi s d : Nat) (hd : a / 2 ^ m % 4 = d) (hm : m = 64 * qi + s) (hs : s + 2 ≤ 64) : setRow (limbs (r * 4)) 0 (#[.int .u64 (Go.bits .or .u64 (limb (r * 4) 0) (Go.bits .and .u64 (limb a qi / 2 ^ s) 3))] : Array Value).toList = limbs (r * 4 ||| d) := by
  subst hd; exact set_two r a m qi s hm hs
theorem four_or (r d : Nat) (hd : d < 4) : r * 2 ^ 2 ||| d = 4 * r + d := by
  have := Nat.two_pow_add_eq_or_of_lt (i := 2) (b := d) hd r
  rw [Nat.mul_comm]; rw [← this]
theorem four_or1 (r : Nat) : r * 2 ^ 2 ||| 1 = 4 * r + 1 := four_or r 1 (by decide)
end Go.Proofs.YtdcgcjmajacgiaaDoor

namespace Go.Proofs.YtdcgcjmajacgiaaDoor
open Go.RowKit
theorem big_192_n (n : Nat) (h : n + n = 64 * 6) (h4 : 4 < n) : 2 ^ n * 16 < top6 := by
  rw [top6_pow (n + n) h, show n + n = n + 4 + (n - 4) by omega, Nat.pow_add, Nat.pow_add]
  have h1 : 1 < 2 ^ (n - 4) := Nat.one_lt_two_pow (by omega)
  have h2 := Nat.mul_lt_mul_of_pos_left h1 (Nat.mul_pos (two_pos n) (show 0 < 2 ^ 4 by decide))
  omega
theorem big_192 : 2 ^ 192 * 16 < top6 := big_192_n 192 rfl (by decide)
set_option maxHeartbeats 3200000 in
set_option maxRecDepth 100000 in
theorem quotSqrt_any (a : Nat) (w0 : World) (ha : a < top6) :
    Calls Tryd.prog 79 #[W a] w0 fun e w' => e = .returned (.tuple #[W (isq a), W (a - isq a * isq a)]) ∧ Below w0.heap.size w0 w' := by
  have H := Own.start w0
  have hl4 : lenN a ≤ 384 := (lenN_le a 384).2 (by rw [show 384 = 64 * 6 from rfl, ← top6.eq_1]; exact ha)
  have cN := fun w => wideLen_any a w ha
  have HA := Lib.hid ha
  clear ha
  go_enter Tryd.func79, Tryd.ntmps79
  go_wp2_with (first
    | ((with_reducible show wpList _ _ _ (⟨some 1, .box _ _, _, _, _, _⟩ :: _) _ _); refine H.box rfl rfl (cells_agg _) ?_; (intro ga w H; simp only [Act.put, List.setIfInBounds_toArray, List.set_cons_zero, List.set_cons_succ]))
    | ((with_reducible show wpList _ _ _ (⟨some 2, .alloc 54, _, _, _, _⟩ :: _) _ _); refine H.mk0 rfl rW rfl ?_; (intro gq w H; simp only [Act.put, List.setIfInBounds_toArray, List.set_cons_zero, List.set_cons_succ]))
    | ((with_reducible show wpList _ _ _ (⟨some 3, .alloc 54, _, _, _, _⟩ :: _) _ _); refine H.mk0 rfl rW rfl ?_; (intro gr w H; simp only [Act.put, List.setIfInBounds_toArray, List.set_cons_zero, List.set_cons_succ]))
    | ((with_reducible show wpList _ _ _ (⟨_, .box _ _, _, _, _, _⟩ :: _) _ _); refine H.box rfl rfl (cells_agg _) ?_; (intro g w H; simp only [Act.put, List.setIfInBounds_toArray, List.set_cons_zero, List.set_cons_succ]))
    | ((with_reducible show wpList _ _ _ (⟨_, .alloc 54, _, _, _, _⟩ :: _) _ _); refine H.mk0 rfl rW rfl ?_; (intro g w H; simp only [Act.put, List.setIfInBounds_toArray, List.set_cons_zero, List.set_cons_succ]))
    | ((with_reducible show wpList _ _ _ (⟨_, .load 54 _, _, _, _, _⟩ :: _) _ _); refine H.ld rfl rW rfl rfl (by repeat (first | with_reducible exact List.mem_cons_self | apply List.mem_cons_of_mem)) (by first | with_reducible exact ext_limbs _ | with_reducible exact ext_parts_s _ _ _ _ | with_reducible exact ext_rough_s _ _ _ _ | with_reducible exact ext_parts_f _ _ _ _) (by rfl) ?_; simp only [Act.put, List.setIfInBounds_toArray, List.set_cons_zero, List.set_cons_succ])
    | ((with_reducible show wpList _ _ _ (⟨_, .load 25 _, _, _, _, _⟩ :: _) _ _); refine H.ld1 rfl oU rfl rfl (by repeat (first | with_reducible exact List.mem_cons_self | apply List.mem_cons_of_mem)) (by first | with_reducible exact get_20 _ _ | with_reducible exact get_21 _ _ | with_reducible exact limbs_o0 _ | with_reducible exact limbs_o1 _ | with_reducible exact limbs_o2 _ | with_reducible exact limbs_o3 _ | with_reducible exact limbs_o4 _ | with_reducible exact limbs_o5 _) ?_; simp only [Act.put, List.setIfInBounds_toArray, List.set_cons_zero, List.set_cons_succ])
    | ((with_reducible show wpList _ _ _ (⟨_, .store 54 _ _, _, _, _, _⟩ :: _) _ _); refine H.st rfl rW rfl rfl (cells_agg _) (by repeat (first | with_reducible exact Upd.head _ | apply Upd.tail)) (set_limbs _ _) (by rfl) (by exact one_of rfl) (by first | exact ble_le rfl | (change _ + 1 ≤ 12; omega) | (change _ + 1 ≤ 6; omega)) ?_; (intro w H; simp only [Act.put]))
    | ((with_reducible show wpList _ _ _ (⟨_, .store 25 _ _, _, _, _, _⟩ :: _) _ _); refine H.st1 rfl oU rfl rfl (cells_int _ _) (by repeat (first | with_reducible exact Upd.head _ | apply Upd.tail)) (set_or1 _) (by rfl) (by exact one_of rfl) (by first | exact ble_le rfl | (change _ + 1 ≤ 12; omega) | (change _ + 1 ≤ 6; omega)) ?_; (intro w H; simp only [Act.put]))
    | (go_at_call 78; ((with_reducible refine (cN _).mono ?_); rintro e w ⟨rfl, hb⟩; replace H := H.call hb; clear hb))
    )
  go_step3
  go_wp2_with (first
    | ((with_reducible show wpList _ _ _ (⟨some 1, .box _ _, _, _, _, _⟩ :: _) _ _); refine H.box rfl rfl (cells_agg _) ?_; (intro ga w H; simp only [Act.put, List.setIfInBounds_toArray, List.set_cons_zero, List.set_cons_succ]))
    | ((with_reducible show wpList _ _ _ (⟨some 2, .alloc 54, _, _, _, _⟩ :: _) _ _); refine H.mk0 rfl rW rfl ?_; (intro gq w H; simp only [Act.put, List.setIfInBounds_toArray, List.set_cons_zero, List.set_cons_succ]))
    | ((with_reducible show wpList _ _ _ (⟨some 3, .alloc 54, _, _, _, _⟩ :: _) _ _); refine H.mk0 rfl rW rfl ?_; (intro gr w H; simp only [Act.put, List.setIfInBounds_toArray, List.set_cons_zero, List.set_cons_succ]))
    | ((with_reducible show wpList _ _ _ (⟨_, .box _ _, _, _, _, _⟩ :: _) _ _); refine H.box rfl rfl (cells_agg _) ?_; (intro g w H; simp only [Act.put, List.setIfInBounds_toArray, List.set_cons_zero, List.set_cons_succ]))
    | ((with_reducible show wpList _ _ _ (⟨_, .alloc 54, _, _, _, _⟩ :: _) _ _); refine H.mk0 rfl rW rfl ?_; (intro g w H; simp only [Act.put, List.setIfInBounds_toArray, List.set_cons_zero, List.set_cons_succ]))
    | ((with_reducible show wpList _ _ _ (⟨_, .load 54 _, _, _, _, _⟩ :: _) _ _); refine H.ld rfl rW rfl rfl (by repeat (first | with_reducible exact List.mem_cons_self | apply List.mem_cons_of_mem)) (by first | with_reducible exact ext_limbs _ | with_reducible exact ext_parts_s _ _ _ _ | with_reducible exact ext_rough_s _ _ _ _ | with_reducible exact ext_parts_f _ _ _ _) (by rfl) ?_; simp only [Act.put, List.setIfInBounds_toArray, List.set_cons_zero, List.set_cons_succ])
    | ((with_reducible show wpList _ _ _ (⟨_, .load 25 _, _, _, _, _⟩ :: _) _ _); refine H.ld1 rfl oU rfl rfl (by repeat (first | with_reducible exact List.mem_cons_self | apply List.mem_cons_of_mem)) (by first | with_reducible exact get_20 _ _ | with_reducible exact get_21 _ _ | with_reducible exact limbs_o0 _ | with_reducible exact limbs_o1 _ | with_reducible exact limbs_o2 _ | with_reducible exact limbs_o3 _ | with_reducible exact limbs_o4 _ | with_reducible exact limbs_o5 _) ?_; simp only [Act.put, List.setIfInBounds_toArray, List.set_cons_zero, List.set_cons_succ])
    | ((with_reducible show wpList _ _ _ (⟨_, .store 54 _ _, _, _, _, _⟩ :: _) _ _); refine H.st rfl rW rfl rfl (cells_agg _) (by repeat (first | with_reducible exact Upd.head _ | apply Upd.tail)) (set_limbs _ _) (by rfl) (by exact one_of rfl) (by first | exact ble_le rfl | (change _ + 1 ≤ 12; omega) | (change _ + 1 ≤ 6; omega)) ?_; (intro w H; simp only [Act.put]))
    | ((with_reducible show wpList _ _ _ (⟨_, .store 25 _ _, _, _, _, _⟩ :: _) _ _); refine H.st1 rfl oU rfl rfl (cells_int _ _) (by repeat (first | with_reducible exact Upd.head _ | apply Upd.tail)) (set_or1 _) (by rfl) (by exact one_of rfl) (by first | exact ble_le rfl | (change _ + 1 ≤ 12; omega) | (change _ + 1 ≤ 6; omega)) ?_; (intro w H; simp only [Act.put]))
    | (go_at_call 78; ((with_reducible refine (cN _).mono ?_); rintro e w ⟨rfl, hb⟩; replace H := H.call hb; clear hb))
    )
  go_step3
  go_wp2_with fail
  go_loopw [4] (fun i wr => ∃ (k : Nat) (e : Int), e = 2 * k ∧ k ≤ 192 ∧ i = .int .i64 e ∧ Own w0 wr [(gr, 54, limbs (a / 2 ^ (2 * k) - isq (a / 2 ^ (2 * k)) * isq (a / 2 ^ (2 * k)))), (gq, 54, limbs (isq (a / 2 ^ (2 * k)))), (ga, 54, limbs a)]) (fun i _ => (intOf i).toNat)
  case atStart =>
    refine ⟨(lenN a + 1) / 2, ((lenN a : Int) + 1) / 2 * 2, by omega, by omega, rfl, ?_⟩
    rw [Nat.div_eq_of_lt (Nat.lt_of_lt_of_le (lenN_lt a) (Nat.pow_le_pow_right (by decide) (by omega))), isq_zero, Nat.zero_sub]; exact H
  case round =>
    clear H
    obtain ⟨k, e, hke, hk, rfl, H⟩ := hrel
    by_cases h0 : k = 0
    · subst h0
      obtain rfl : e = 0 := by omega
      rw [Nat.mul_zero, Nat.pow_zero, Nat.div_one] at H
      clear cN hke
      go_wp2_with (first
    | ((with_reducible show wpList _ _ _ (⟨some 1, .box _ _, _, _, _, _⟩ :: _) _ _); refine H.box rfl rfl (cells_agg _) ?_; (intro ga w H; simp only [Act.put, List.setIfInBounds_toArray, List.set_cons_zero, List.set_cons_succ]))
    | ((with_reducible show wpList _ _ _ (⟨some 2, .alloc 54, _, _, _, _⟩ :: _) _ _); refine H.mk0 rfl rW rfl ?_; (intro gq w H; simp only [Act.put, List.setIfInBounds_toArray, List.set_cons_zero, List.set_cons_succ]))
    | ((with_reducible show wpList _ _ _ (⟨some 3, .alloc 54, _, _, _, _⟩ :: _) _ _); refine H.mk0 rfl rW rfl ?_; (intro gr w H; simp only [Act.put, List.setIfInBounds_toArray, List.set_cons_zero, List.set_cons_succ]))
    | ((with_reducible show wpList _ _ _ (⟨_, .box _ _, _, _, _, _⟩ :: _) _ _); refine H.box rfl rfl (cells_agg _) ?_; (intro g w H; simp only [Act.put, List.setIfInBounds_toArray, List.set_cons_zero, List.set_cons_succ]))
    | ((with_reducible show wpList _ _ _ (⟨_, .alloc 54, _, _, _, _⟩ :: _) _ _); refine H.mk0 rfl rW rfl ?_; (intro g w H; simp only [Act.put, List.setIfInBounds_toArray, List.set_cons_zero, List.set_cons_succ]))
    | ((with_reducible show wpList _ _ _ (⟨_, .load 54 _, _, _, _, _⟩ :: _) _ _); refine H.ld rfl rW rfl rfl (by repeat (first | with_reducible exact List.mem_cons_self | apply List.mem_cons_of_mem)) (by first | with_reducible exact ext_limbs _ | with_reducible exact ext_parts_s _ _ _ _ | with_reducible exact ext_rough_s _ _ _ _ | with_reducible exact ext_parts_f _ _ _ _) (by rfl) ?_; simp only [Act.put, List.setIfInBounds_toArray, List.set_cons_zero, List.set_cons_succ])
    | ((with_reducible show wpList _ _ _ (⟨_, .load 25 _, _, _, _, _⟩ :: _) _ _); refine H.ld1 rfl oU rfl rfl (by repeat (first | with_reducible exact List.mem_cons_self | apply List.mem_cons_of_mem)) (by first | with_reducible exact get_20 _ _ | with_reducible exact get_21 _ _ | with_reducible exact limbs_o0 _ | with_reducible exact limbs_o1 _ | with_reducible exact limbs_o2 _ | with_reducible exact limbs_o3 _ | with_reducible exact limbs_o4 _ | with_reducible exact limbs_o5 _) ?_; simp only [Act.put, List.setIfInBounds_toArray, List.set_cons_zero, List.set_cons_succ])
    | ((with_reducible show wpList _ _ _ (⟨_, .store 54 _ _, _, _, _, _⟩ :: _) _ _); refine H.st rfl rW rfl rfl (cells_agg _) (by repeat (first | with_reducible exact Upd.head _ | apply Upd.tail)) (set_limbs _ _) (by rfl) (by exact one_of rfl) (by first | exact ble_le rfl | (change _ + 1 ≤ 12; omega) | (change _ + 1 ≤ 6; omega)) ?_; (intro w H; simp only [Act.put]))
    | ((with_reducible show wpList _ _ _ (⟨_, .store 25 _ _, _, _, _, _⟩ :: _) _ _); refine H.st1 rfl oU rfl rfl (cells_int _ _) (by repeat (first | with_reducible exact Upd.head _ | apply Upd.tail)) (set_or1 _) (by rfl) (by exact one_of rfl) (by first | exact ble_le rfl | (change _ + 1 ≤ 12; omega) | (change _ + 1 ≤ 6; omega)) ?_; (intro w H; simp only [Act.put]))
    | ((with_reducible show Code.wp _ (.region 12 _ true) _ _ _); refine H.heldSub rfl (List.Sublist.refl _) ?_; intro H; refine H.tk (by repeat (first | with_reducible exact List.Sublist.refl _ | with_reducible apply List.Sublist.cons_cons | with_reducible apply List.Sublist.cons)) 0 rfl (by kernel_rfl) (by kernel_rfl) (by kernel_rfl) (fun _ _ _ _ h => h) rfl rW rfl rfl (by repeat (first | with_reducible exact List.mem_cons_self | apply List.mem_cons_of_mem)) (by first | with_reducible exact ext_limbs _ | with_reducible exact ext_parts_s _ _ _ _ | with_reducible exact ext_rough_s _ _ _ _ | with_reducible exact ext_parts_f _ _ _ _) (by rfl) ?_; (try simp only [Act.put, List.setIfInBounds_toArray, List.set_cons_zero, List.set_cons_succ]); (try simp only [List.getElem_toArray, List.getElem_cons_zero, List.getElem_cons_succ]); refine H.tk (by repeat (first | with_reducible exact List.Sublist.refl _ | with_reducible apply List.Sublist.cons_cons | with_reducible apply List.Sublist.cons)) 1 rfl (by kernel_rfl) (by kernel_rfl) (by kernel_rfl) (fun _ _ _ _ h => h) rfl rW rfl rfl (by repeat (first | with_reducible exact List.mem_cons_self | apply List.mem_cons_of_mem)) (by first | with_reducible exact ext_limbs _ | with_reducible exact ext_parts_s _ _ _ _ | with_reducible exact ext_rough_s _ _ _ _ | with_reducible exact ext_parts_f _ _ _ _) (by rfl) ?_; (try simp only [Act.put, List.setIfInBounds_toArray, List.set_cons_zero, List.set_cons_succ]); (try simp only [List.getElem_toArray, List.getElem_cons_zero, List.getElem_cons_succ]); refine held_one (i := 2) (by kernel_rfl) rfl rfl ?_; refine H.ost rW rfl rfl (cells_agg _) (by repeat (first | with_reducible exact Upd.head _ | apply Upd.tail)) (set_limbs _ _) (by rfl) (by exact one_of rfl) (by first | exact ble_le rfl | (change _ + 1 ≤ 12; omega) | (change _ + 1 ≤ 6; omega)) ?_; intro w H; refine H.next (by repeat (first | with_reducible exact List.Sublist.refl _ | with_reducible apply List.Sublist.cons_cons | with_reducible apply List.Sublist.cons)) ?_; (try simp only [Act.put]); refine held_one (i := 3) (by kernel_rfl) rfl rfl ?_; refine H.ost rW rfl rfl (cells_agg _) (by repeat (first | with_reducible exact Upd.head _ | apply Upd.tail)) (set_limbs _ _) (by rfl) (by exact one_of rfl) (by first | exact ble_le rfl | (change _ + 1 ≤ 12; omega) | (change _ + 1 ≤ 6; omega)) ?_; intro w H; refine H.next (by repeat (first | with_reducible exact List.Sublist.refl _ | with_reducible apply List.Sublist.cons_cons | with_reducible apply List.Sublist.cons)) ?_; (try simp only [Act.put]); refine wpAnyH_done (by kernel_rfl) ?_ _)
    )
      (try rw [Exit.noGoto_ret])
      refine bodyPost_ret (results_cc rfl rfl (H.res rW (by repeat (first | with_reducible exact List.mem_cons_self | apply List.mem_cons_of_mem)) (ext_limbs _) (by rfl)) rfl (H.res rW (by repeat (first | with_reducible exact List.mem_cons_self | apply List.mem_cons_of_mem)) (ext_limbs _) (by rfl))) rfl ⟨?_, H.below⟩
      rfl
    · obtain ⟨m, rfl⟩ : ∃ m, k = m + 1 := ⟨k - 1, by omega⟩
      obtain rfl : e = 2 * (m : Int) + 2 := by omega
      have hAt : a / 2 ^ (2 * (m + 1)) < top6 := Nat.lt_of_le_of_lt (Nat.div_le_self _ _) HA.out
      have hrt : isq (a / 2 ^ (2 * (m + 1))) < 2 ^ 192 := isq_lt _ 192 (by rw [show 192 + 192 = 64 * 6 from rfl, ← top6.eq_1]; exact hAt)
      have hrest := isq_rest (a / 2 ^ (2 * (m + 1)))
      obtain ⟨rd1, rd2⟩ := sqrt_round a (2 * m) _ rfl
      rw [show 2 * m + 2 = 2 * (m + 1) by omega] at rd1 rd2
      have hd4 : a / 2 ^ (2 * m) % 4 < 4 := Nat.mod_lt _ (by decide)
      have hfo := fun r => four_or r (a / 2 ^ (2 * m) % 4) hd4
      generalize hDD : a / 2 ^ (2 * m) % 4 = d at rd1 rd2 hd4 hfo
      generalize hRR : a / 2 ^ (2 * (m + 1)) - isq (a / 2 ^ (2 * (m + 1))) * isq (a / 2 ^ (2 * (m + 1))) = r at *
      generalize hQQ : isq (a / 2 ^ (2 * (m + 1))) = q at *
      generalize hR2 : a / 2 ^ (2 * m) - isq (a / 2 ^ (2 * m)) * isq (a / 2 ^ (2 * m)) = r2 at *
      generalize hQ2 : isq (a / 2 ^ (2 * m)) = q2 at *
      have h192 := big_192
      obtain ⟨P, hP⟩ : ∃ P, P = 2 ^ 192 := ⟨_, rfl⟩
      rw [← hP] at hrt h192
      have hq4 : q * 2 ^ 2 < top6 := by omega
      have cL1 := fun w => wideLeft_any r 2 w (by omega)
      have cL2 := fun w => wideLeft_any q 2 w (by omega)
      have cL3 := fun w => wideLeft_any q 1 w (by omega)
      rw [show clip 2 = 2 from rfl, show 2 ^ 2 = 4 from rfl] at cL1 cL2
      rw [show clip 1 = 1 from rfl, Nat.pow_one] at cL3
      obtain ⟨qi, hqi⟩ : ∃ qi : Nat, (2 * (m : Int)) / 64 = qi := ⟨2 * m / 64, by omega⟩
      obtain ⟨sh, hsh⟩ : ∃ sh : Nat, (2 * (m : Int)) % 64 = sh := ⟨2 * m % 64, by omega⟩
      have hm : 2 * m = 64 * qi + sh := by omega
      have hs64 : sh + 2 ≤ 64 := by omega
      have hq6 : qi < 6 := by omega
      have HM := Lib.hid hm
      have HDD := Lib.hid hDD
      have HR2 := Lib.hid hR2
      have HQ2 := Lib.hid hQ2
      have HRD1 := Lib.hid rd1
      have HRD2 := Lib.hid rd2
      have HFO := Lib.hid hfo
      clear hm hDD hR2 hQ2 hRR hQQ rd1 rd2 hfo cN h0 hAt hP
      have G : (limbs a)[qi]? = some (.int .u64 (limb a qi)) := limbs_get a qi hq6
      have hx : 2 * ((m : Int) + 1) - 2 = 2 * (m : Int) := by omega
      have hq6i : (qi : Int) < 6 := by omega
      have t1 : IntKind.i64.wrap ((2 * (m : Int)).tdiv 64) = (qi : Int) := by rw [Int.tdiv_eq_ediv_of_nonneg (by omega), hqi]; exact IntWalk.i64_in _ (by omega)
      have t2 : (2 * (m : Int)).tmod 64 = (sh : Int) := by rw [Int.tmod_eq_emod_of_nonneg (by omega), hsh]
      have t3 : IntKind.u64.wrap (sh : Int) = (sh : Int) := by rw [IntKind.wrap_u64]; omega
      have t4 : min sh 64 = sh := by omega
      have cC := fun w => wideCmp_any (r * 2 ^ 2 ||| d) (q * 2 ^ 2 ||| 1) w (by rw [HFO.out]; omega) (by rw [four_or1]; omega)
      have cS := fun w => wideSub_any (r * 2 ^ 2 ||| d) (q * 2 ^ 2 ||| 1) w (by rw [four_or1]; omega)
      rw [show 2 ^ 2 = 4 from rfl] at cC cS
      by_cases hlt : 4 * r + d < 4 * q + 1
      · have hc : decide (cmpN (r * 4 ||| d) (q * 4 ||| 1) < 0) = true := by unfold cmpN; rw [show r * 4 ||| d = 4 * r + d from HFO.out r, show q * 4 ||| 1 = 4 * q + 1 from four_or1 q, if_pos hlt]; decide
        have E1 := Lib.hid (show limbs r2 = limbs (r * 4 ||| d) by rw [(HRD1.out hlt).2, show r * 4 ||| d = 4 * r + d from HFO.out r])
        have E2 := Lib.hid (show limbs q2 = limbs (q * 2) by rw [(HRD1.out hlt).1, Nat.mul_comm])
        clear HRD1 HRD2 HFO hlt hrest hrt h192 hq4
        go_wp2_with (first
    | ((with_reducible show wpList _ _ _ (⟨some 1, .box _ _, _, _, _, _⟩ :: _) _ _); refine H.box rfl rfl (cells_agg _) ?_; (intro ga w H; simp only [Act.put, List.setIfInBounds_toArray, List.set_cons_zero, List.set_cons_succ]))
    | ((with_reducible show wpList _ _ _ (⟨some 2, .alloc 54, _, _, _, _⟩ :: _) _ _); refine H.mk0 rfl rW rfl ?_; (intro gq w H; simp only [Act.put, List.setIfInBounds_toArray, List.set_cons_zero, List.set_cons_succ]))
    | ((with_reducible show wpList _ _ _ (⟨some 3, .alloc 54, _, _, _, _⟩ :: _) _ _); refine H.mk0 rfl rW rfl ?_; (intro gr w H; simp only [Act.put, List.setIfInBounds_toArray, List.set_cons_zero, List.set_cons_succ]))
    | ((with_reducible show wpList _ _ _ (⟨_, .box _ _, _, _, _, _⟩ :: _) _ _); refine H.box rfl rfl (cells_agg _) ?_; (intro g w H; simp only [Act.put, List.setIfInBounds_toArray, List.set_cons_zero, List.set_cons_succ]))
    | ((with_reducible show wpList _ _ _ (⟨_, .alloc 54, _, _, _, _⟩ :: _) _ _); refine H.mk0 rfl rW rfl ?_; (intro g w H; simp only [Act.put, List.setIfInBounds_toArray, List.set_cons_zero, List.set_cons_succ]))
    | ((with_reducible show wpList _ _ _ (⟨_, .load 54 _, _, _, _, _⟩ :: _) _ _); refine H.ld rfl rW rfl rfl (by repeat (first | with_reducible exact List.mem_cons_self | apply List.mem_cons_of_mem)) (by first | with_reducible exact ext_limbs _ | with_reducible exact ext_parts_s _ _ _ _ | with_reducible exact ext_rough_s _ _ _ _ | with_reducible exact ext_parts_f _ _ _ _) (by rfl) ?_; simp only [Act.put, List.setIfInBounds_toArray, List.set_cons_zero, List.set_cons_succ])
    | ((with_reducible show wpList _ _ _ (⟨_, .load 25 _, _, _, _, _⟩ :: _) _ _); refine H.ld1 rfl oU rfl rfl (by repeat (first | with_reducible exact List.mem_cons_self | apply List.mem_cons_of_mem)) (by first | with_reducible exact G | with_reducible exact get_20 _ _ | with_reducible exact get_21 _ _ | with_reducible exact limbs_o0 _ | with_reducible exact limbs_o1 _ | with_reducible exact limbs_o2 _ | with_reducible exact limbs_o3 _ | with_reducible exact limbs_o4 _ | with_reducible exact limbs_o5 _) ?_; simp only [Act.put, List.setIfInBounds_toArray, List.set_cons_zero, List.set_cons_succ])
    | ((with_reducible show wpList _ _ _ (⟨_, .store 54 _ _, _, _, _, _⟩ :: _) _ _); refine H.st rfl rW rfl rfl (cells_agg _) (by repeat (first | with_reducible exact Upd.head _ | apply Upd.tail)) (set_limbs _ _) (by rfl) (by exact one_of rfl) (by first | exact ble_le rfl | (change _ + 1 ≤ 12; omega) | (change _ + 1 ≤ 6; omega)) ?_; (intro w H; simp only [Act.put]))
    | ((with_reducible show wpList _ _ _ (⟨_, .store 25 _ _, _, _, _, _⟩ :: _) _ _); refine H.st1 rfl oU rfl rfl (cells_int _ _) (by repeat (first | with_reducible exact Upd.head _ | apply Upd.tail)) (set_or1 _) (by rfl) (by exact one_of rfl) (by first | exact ble_le rfl | (change _ + 1 ≤ 12; omega) | (change _ + 1 ≤ 6; omega)) ?_; (intro w H; simp only [Act.put]))
    | ((with_reducible show Code.wp _ (.region 5 _ true) _ _ _); refine H.heldSub rfl (List.Sublist.cons _ (List.Sublist.refl _)) ?_; intro H; refine H.takeRun (by repeat (first | with_reducible exact List.Sublist.refl _ | with_reducible apply List.Sublist.cons_cons | with_reducible apply List.Sublist.cons)) 0 rfl (by kernel_rfl) (by kernel_rfl) (by kernel_rfl) (fun _ _ _ _ h => h) rfl (by intro w; go_simp; (try with_reducible rfl)) ?_; (try simp only [Act.put, List.setIfInBounds_toArray, List.set_cons_zero, List.set_cons_succ]); (try simp only [List.getElem_toArray, List.getElem_cons_zero, List.getElem_cons_succ]); refine H.takeRun (by repeat (first | with_reducible exact List.Sublist.refl _ | with_reducible apply List.Sublist.cons_cons | with_reducible apply List.Sublist.cons)) 2 rfl (by kernel_rfl) (by kernel_rfl) (by kernel_rfl) (fun _ _ _ _ h => h) rfl (by intro w; go_simp; (try with_reducible rfl)) ?_; (try simp only [Act.put, List.setIfInBounds_toArray, List.set_cons_zero, List.set_cons_succ]); (try simp only [List.getElem_toArray, List.getElem_cons_zero, List.getElem_cons_succ]); refine H.takeRun (by repeat (first | with_reducible exact List.Sublist.refl _ | with_reducible apply List.Sublist.cons_cons | with_reducible apply List.Sublist.cons)) 3 rfl (by kernel_rfl) (by kernel_rfl) (by kernel_rfl) (fun _ _ _ _ h => h) rfl (by intro w; go_simp; (try with_reducible rfl)) ?_; (try simp only [Act.put, List.setIfInBounds_toArray, List.set_cons_zero, List.set_cons_succ]); (try simp only [List.getElem_toArray, List.getElem_cons_zero, List.getElem_cons_succ]); refine H.takeRun (by repeat (first | with_reducible exact List.Sublist.refl _ | with_reducible apply List.Sublist.cons_cons | with_reducible apply List.Sublist.cons)) 4 rfl (by kernel_rfl) (by kernel_rfl) (by kernel_rfl) (fun _ _ _ _ h => h) rfl (by intro w; go_simp; (try with_reducible rfl)) ?_; (try simp only [Act.put, List.setIfInBounds_toArray, List.set_cons_zero, List.set_cons_succ]); (try simp only [List.getElem_toArray, List.getElem_cons_zero, List.getElem_cons_succ]); refine H.tk1 (by repeat (first | with_reducible exact List.Sublist.refl _ | with_reducible apply List.Sublist.cons_cons | with_reducible apply List.Sublist.cons)) 5 rfl (by kernel_rfl) (by kernel_rfl) (by kernel_rfl) (fun _ _ _ _ h => h) rfl oU rfl rfl (by repeat (first | with_reducible exact List.mem_cons_self | apply List.mem_cons_of_mem)) (by first | with_reducible exact G | with_reducible exact get_20 _ _ | with_reducible exact get_21 _ _ | with_reducible exact limbs_o0 _ | with_reducible exact limbs_o1 _ | with_reducible exact limbs_o2 _ | with_reducible exact limbs_o3 _ | with_reducible exact limbs_o4 _ | with_reducible exact limbs_o5 _) ?_; (try simp only [Act.put, List.setIfInBounds_toArray, List.set_cons_zero, List.set_cons_succ]); (try simp only [List.getElem_toArray, List.getElem_cons_zero, List.getElem_cons_succ]); refine H.takeRun (by repeat (first | with_reducible exact List.Sublist.refl _ | with_reducible apply List.Sublist.cons_cons | with_reducible apply List.Sublist.cons)) 6 rfl (by kernel_rfl) (by kernel_rfl) (by kernel_rfl) (fun _ _ _ _ h => h) rfl (by intro w; go_simp; (try with_reducible rfl)) ?_; (try simp only [Act.put, List.setIfInBounds_toArray, List.set_cons_zero, List.set_cons_succ]); (try simp only [List.getElem_toArray, List.getElem_cons_zero, List.getElem_cons_succ]); refine H.takeRun (by repeat (first | with_reducible exact List.Sublist.refl _ | with_reducible apply List.Sublist.cons_cons | with_reducible apply List.Sublist.cons)) 7 rfl (by kernel_rfl) (by kernel_rfl) (by kernel_rfl) (fun _ _ _ _ h => h) rfl (by intro w; go_simp; (try with_reducible rfl)) ?_; (try simp only [Act.put, List.setIfInBounds_toArray, List.set_cons_zero, List.set_cons_succ]); (try simp only [List.getElem_toArray, List.getElem_cons_zero, List.getElem_cons_succ]); refine H.takeRun (by repeat (first | with_reducible exact List.Sublist.refl _ | with_reducible apply List.Sublist.cons_cons | with_reducible apply List.Sublist.cons)) 8 rfl (by kernel_rfl) (by kernel_rfl) (by kernel_rfl) (fun _ _ _ _ h => h) rfl (by intro w; go_simp; (try with_reducible rfl)) ?_; (try simp only [Act.put, List.setIfInBounds_toArray, List.set_cons_zero, List.set_cons_succ]); (try simp only [List.getElem_toArray, List.getElem_cons_zero, List.getElem_cons_succ]); refine H.takeRun (by repeat (first | with_reducible exact List.Sublist.refl _ | with_reducible apply List.Sublist.cons_cons | with_reducible apply List.Sublist.cons)) 9 rfl (by kernel_rfl) (by kernel_rfl) (by kernel_rfl) (fun _ _ _ _ h => h) rfl (by intro w; go_simp; (try with_reducible rfl)) ?_; (try simp only [Act.put, List.setIfInBounds_toArray, List.set_cons_zero, List.set_cons_succ]); (try simp only [List.getElem_toArray, List.getElem_cons_zero, List.getElem_cons_succ]); refine H.takeRun (by repeat (first | with_reducible exact List.Sublist.refl _ | with_reducible apply List.Sublist.cons_cons | with_reducible apply List.Sublist.cons)) 10 rfl (by kernel_rfl) (by kernel_rfl) (by kernel_rfl) (fun _ _ _ _ h => h) rfl (by intro w; go_simp; (try with_reducible rfl)) ?_; (try simp only [Act.put, List.setIfInBounds_toArray, List.set_cons_zero, List.set_cons_succ]); (try simp only [List.getElem_toArray, List.getElem_cons_zero, List.getElem_cons_succ]); refine held_one (i := 1) (by kernel_rfl) rfl rfl ?_; refine H.old1 oU rfl rfl (by repeat (first | with_reducible exact List.mem_cons_self | apply List.mem_cons_of_mem)) (by first | with_reducible exact G | with_reducible exact get_20 _ _ | with_reducible exact get_21 _ _ | with_reducible exact limbs_o0 _ | with_reducible exact limbs_o1 _ | with_reducible exact limbs_o2 _ | with_reducible exact limbs_o3 _ | with_reducible exact limbs_o4 _ | with_reducible exact limbs_o5 _) ?_; refine H.next (by repeat (first | with_reducible exact List.Sublist.refl _ | with_reducible apply List.Sublist.cons_cons | with_reducible apply List.Sublist.cons)) ?_; (try simp only [Act.put, List.setIfInBounds_toArray, List.set_cons_zero, List.set_cons_succ]); (try simp only [List.getElem_toArray, List.getElem_cons_zero, List.getElem_cons_succ]); refine H.takeRun (by repeat (first | with_reducible exact List.Sublist.refl _ | with_reducible apply List.Sublist.cons_cons | with_reducible apply List.Sublist.cons)) 11 rfl (by kernel_rfl) (by kernel_rfl) (by kernel_rfl) (fun _ _ _ _ h => h) rfl (by intro w; go_simp; (try with_reducible rfl)) ?_; (try simp only [Act.put, List.setIfInBounds_toArray, List.set_cons_zero, List.set_cons_succ]); (try simp only [List.getElem_toArray, List.getElem_cons_zero, List.getElem_cons_succ]); refine H.takeRun (by repeat (first | with_reducible exact List.Sublist.refl _ | with_reducible apply List.Sublist.cons_cons | with_reducible apply List.Sublist.cons)) 12 rfl (by kernel_rfl) (by kernel_rfl) (by kernel_rfl) (fun _ _ _ _ h => h) rfl (by intro w; go_simp; (try with_reducible rfl)) ?_; (try simp only [Act.put, List.setIfInBounds_toArray, List.set_cons_zero, List.set_cons_succ]); (try simp only [List.getElem_toArray, List.getElem_cons_zero, List.getElem_cons_succ]); refine held_one (i := 13) (by kernel_rfl) rfl rfl ?_; refine H.ost1 oU rfl rfl (cells_int _ _) (by repeat (first | with_reducible exact Upd.head _ | apply Upd.tail)) (set_two_d _ a (2 * m) _ _ _ HDD.out HM.out (by omega)) (by rfl) (by exact one_of rfl) (by first | exact ble_le rfl | (change _ + 1 ≤ 12; omega) | (change _ + 1 ≤ 6; omega)) ?_; intro w H; refine H.next (by repeat (first | with_reducible exact List.Sublist.refl _ | with_reducible apply List.Sublist.cons_cons | with_reducible apply List.Sublist.cons)) ?_; (try simp only [Act.put]); refine wpAnyH_done (by kernel_rfl) ?_ _)
    | (go_at_call 48; ((with_reducible refine (cL1 _).mono ?_); rintro e w ⟨rfl, hb⟩; replace H := H.call hb; clear hb))
    | (go_at_call 48; ((with_reducible refine (cL2 _).mono ?_); rintro e w ⟨rfl, hb⟩; replace H := H.call hb; clear hb))
    | (go_at_call 48; ((with_reducible refine (cL3 _).mono ?_); rintro e w ⟨rfl, hb⟩; replace H := H.call hb; clear hb))
    | (go_at_call 38; ((with_reducible refine (cC _).mono ?_); rintro e w ⟨rfl, hb⟩; replace H := H.call hb; clear hb))
    )
        all_goals
          go_roundw
          case rel => exact ⟨m, 2 * (m : Int), rfl, by omega, by go_num, by rw [HQ2.out, HR2.out, E1.out, E2.out]; exact H.sub (by repeat (first | with_reducible exact List.Sublist.refl _ | with_reducible apply List.Sublist.cons_cons | with_reducible apply List.Sublist.cons))⟩
          case measure => simp [intOf] <;> omega
      · have hc : decide (cmpN (r * 4 ||| d) (q * 4 ||| 1) < 0) = false := by unfold cmpN; rw [show r * 4 ||| d = 4 * r + d from HFO.out r, show q * 4 ||| 1 = 4 * q + 1 from four_or1 q, if_neg hlt]; split <;> decide
        have E1 := Lib.hid (show limbs r2 = limbs (subN (r * 4 ||| d) (q * 4 ||| 1)) by rw [limbs_sub _ _ (by rw [show r * 4 ||| d = 4 * r + d from HFO.out r, show q * 4 ||| 1 = 4 * q + 1 from four_or1 q]; omega), (HRD2.out (by omega)).2, show r * 4 ||| d = 4 * r + d from HFO.out r, show q * 4 ||| 1 = 4 * q + 1 from four_or1 q])
        have E2 := Lib.hid (show limbs q2 = limbs (q * 2 ||| 1) by rw [(HRD2.out (by omega)).1, dbl_or])
        clear HRD1 HRD2 HFO hlt hrest hrt h192 hq4
        go_wp2_with (first
    | ((with_reducible show wpList _ _ _ (⟨some 1, .box _ _, _, _, _, _⟩ :: _) _ _); refine H.box rfl rfl (cells_agg _) ?_; (intro ga w H; simp only [Act.put, List.setIfInBounds_toArray, List.set_cons_zero, List.set_cons_succ]))
    | ((with_reducible show wpList _ _ _ (⟨some 2, .alloc 54, _, _, _, _⟩ :: _) _ _); refine H.mk0 rfl rW rfl ?_; (intro gq w H; simp only [Act.put, List.setIfInBounds_toArray, List.set_cons_zero, List.set_cons_succ]))
    | ((with_reducible show wpList _ _ _ (⟨some 3, .alloc 54, _, _, _, _⟩ :: _) _ _); refine H.mk0 rfl rW rfl ?_; (intro gr w H; simp only [Act.put, List.setIfInBounds_toArray, List.set_cons_zero, List.set_cons_succ]))
    | ((with_reducible show wpList _ _ _ (⟨_, .box _ _, _, _, _, _⟩ :: _) _ _); refine H.box rfl rfl (cells_agg _) ?_; (intro g w H; simp only [Act.put, List.setIfInBounds_toArray, List.set_cons_zero, List.set_cons_succ]))
    | ((with_reducible show wpList _ _ _ (⟨_, .alloc 54, _, _, _, _⟩ :: _) _ _); refine H.mk0 rfl rW rfl ?_; (intro g w H; simp only [Act.put, List.setIfInBounds_toArray, List.set_cons_zero, List.set_cons_succ]))
    | ((with_reducible show wpList _ _ _ (⟨_, .load 54 _, _, _, _, _⟩ :: _) _ _); refine H.ld rfl rW rfl rfl (by repeat (first | with_reducible exact List.mem_cons_self | apply List.mem_cons_of_mem)) (by first | with_reducible exact ext_limbs _ | with_reducible exact ext_parts_s _ _ _ _ | with_reducible exact ext_rough_s _ _ _ _ | with_reducible exact ext_parts_f _ _ _ _) (by rfl) ?_; simp only [Act.put, List.setIfInBounds_toArray, List.set_cons_zero, List.set_cons_succ])
    | ((with_reducible show wpList _ _ _ (⟨_, .load 25 _, _, _, _, _⟩ :: _) _ _); refine H.ld1 rfl oU rfl rfl (by repeat (first | with_reducible exact List.mem_cons_self | apply List.mem_cons_of_mem)) (by first | with_reducible exact G | with_reducible exact get_20 _ _ | with_reducible exact get_21 _ _ | with_reducible exact limbs_o0 _ | with_reducible exact limbs_o1 _ | with_reducible exact limbs_o2 _ | with_reducible exact limbs_o3 _ | with_reducible exact limbs_o4 _ | with_reducible exact limbs_o5 _) ?_; simp only [Act.put, List.setIfInBounds_toArray, List.set_cons_zero, List.set_cons_succ])
    | ((with_reducible show wpList _ _ _ (⟨_, .store 54 _ _, _, _, _, _⟩ :: _) _ _); refine H.st rfl rW rfl rfl (cells_agg _) (by repeat (first | with_reducible exact Upd.head _ | apply Upd.tail)) (set_limbs _ _) (by rfl) (by exact one_of rfl) (by first | exact ble_le rfl | (change _ + 1 ≤ 12; omega) | (change _ + 1 ≤ 6; omega)) ?_; (intro w H; simp only [Act.put]))
    | ((with_reducible show wpList _ _ _ (⟨_, .store 25 _ _, _, _, _, _⟩ :: _) _ _); refine H.st1 rfl oU rfl rfl (cells_int _ _) (by repeat (first | with_reducible exact Upd.head _ | apply Upd.tail)) (set_or1 _) (by rfl) (by exact one_of rfl) (by first | exact ble_le rfl | (change _ + 1 ≤ 12; omega) | (change _ + 1 ≤ 6; omega)) ?_; (intro w H; simp only [Act.put]))
    | ((with_reducible show Code.wp _ (.region 5 _ true) _ _ _); refine H.heldSub rfl (List.Sublist.cons _ (List.Sublist.refl _)) ?_; intro H; refine H.takeRun (by repeat (first | with_reducible exact List.Sublist.refl _ | with_reducible apply List.Sublist.cons_cons | with_reducible apply List.Sublist.cons)) 0 rfl (by kernel_rfl) (by kernel_rfl) (by kernel_rfl) (fun _ _ _ _ h => h) rfl (by intro w; go_simp; (try with_reducible rfl)) ?_; (try simp only [Act.put, List.setIfInBounds_toArray, List.set_cons_zero, List.set_cons_succ]); (try simp only [List.getElem_toArray, List.getElem_cons_zero, List.getElem_cons_succ]); refine H.takeRun (by repeat (first | with_reducible exact List.Sublist.refl _ | with_reducible apply List.Sublist.cons_cons | with_reducible apply List.Sublist.cons)) 2 rfl (by kernel_rfl) (by kernel_rfl) (by kernel_rfl) (fun _ _ _ _ h => h) rfl (by intro w; go_simp; (try with_reducible rfl)) ?_; (try simp only [Act.put, List.setIfInBounds_toArray, List.set_cons_zero, List.set_cons_succ]); (try simp only [List.getElem_toArray, List.getElem_cons_zero, List.getElem_cons_succ]); refine H.takeRun (by repeat (first | with_reducible exact List.Sublist.refl _ | with_reducible apply List.Sublist.cons_cons | with_reducible apply List.Sublist.cons)) 3 rfl (by kernel_rfl) (by kernel_rfl) (by kernel_rfl) (fun _ _ _ _ h => h) rfl (by intro w; go_simp; (try with_reducible rfl)) ?_; (try simp only [Act.put, List.setIfInBounds_toArray, List.set_cons_zero, List.set_cons_succ]); (try simp only [List.getElem_toArray, List.getElem_cons_zero, List.getElem_cons_succ]); refine H.takeRun (by repeat (first | with_reducible exact List.Sublist.refl _ | with_reducible apply List.Sublist.cons_cons | with_reducible apply List.Sublist.cons)) 4 rfl (by kernel_rfl) (by kernel_rfl) (by kernel_rfl) (fun _ _ _ _ h => h) rfl (by intro w; go_simp; (try with_reducible rfl)) ?_; (try simp only [Act.put, List.setIfInBounds_toArray, List.set_cons_zero, List.set_cons_succ]); (try simp only [List.getElem_toArray, List.getElem_cons_zero, List.getElem_cons_succ]); refine H.tk1 (by repeat (first | with_reducible exact List.Sublist.refl _ | with_reducible apply List.Sublist.cons_cons | with_reducible apply List.Sublist.cons)) 5 rfl (by kernel_rfl) (by kernel_rfl) (by kernel_rfl) (fun _ _ _ _ h => h) rfl oU rfl rfl (by repeat (first | with_reducible exact List.mem_cons_self | apply List.mem_cons_of_mem)) (by first | with_reducible exact G | with_reducible exact get_20 _ _ | with_reducible exact get_21 _ _ | with_reducible exact limbs_o0 _ | with_reducible exact limbs_o1 _ | with_reducible exact limbs_o2 _ | with_reducible exact limbs_o3 _ | with_reducible exact limbs_o4 _ | with_reducible exact limbs_o5 _) ?_; (try simp only [Act.put, List.setIfInBounds_toArray, List.set_cons_zero, List.set_cons_succ]); (try simp only [List.getElem_toArray, List.getElem_cons_zero, List.getElem_cons_succ]); refine H.takeRun (by repeat (first | with_reducible exact List.Sublist.refl _ | with_reducible apply List.Sublist.cons_cons | with_reducible apply List.Sublist.cons)) 6 rfl (by kernel_rfl) (by kernel_rfl) (by kernel_rfl) (fun _ _ _ _ h => h) rfl (by intro w; go_simp; (try with_reducible rfl)) ?_; (try simp only [Act.put, List.setIfInBounds_toArray, List.set_cons_zero, List.set_cons_succ]); (try simp only [List.getElem_toArray, List.getElem_cons_zero, List.getElem_cons_succ]); refine H.takeRun (by repeat (first | with_reducible exact List.Sublist.refl _ | with_reducible apply List.Sublist.cons_cons | with_reducible apply List.Sublist.cons)) 7 rfl (by kernel_rfl) (by kernel_rfl) (by kernel_rfl) (fun _ _ _ _ h => h) rfl (by intro w; go_simp; (try with_reducible rfl)) ?_; (try simp only [Act.put, List.setIfInBounds_toArray, List.set_cons_zero, List.set_cons_succ]); (try simp only [List.getElem_toArray, List.getElem_cons_zero, List.getElem_cons_succ]); refine H.takeRun (by repeat (first | with_reducible exact List.Sublist.refl _ | with_reducible apply List.Sublist.cons_cons | with_reducible apply List.Sublist.cons)) 8 rfl (by kernel_rfl) (by kernel_rfl) (by kernel_rfl) (fun _ _ _ _ h => h) rfl (by intro w; go_simp; (try with_reducible rfl)) ?_; (try simp only [Act.put, List.setIfInBounds_toArray, List.set_cons_zero, List.set_cons_succ]); (try simp only [List.getElem_toArray, List.getElem_cons_zero, List.getElem_cons_succ]); refine H.takeRun (by repeat (first | with_reducible exact List.Sublist.refl _ | with_reducible apply List.Sublist.cons_cons | with_reducible apply List.Sublist.cons)) 9 rfl (by kernel_rfl) (by kernel_rfl) (by kernel_rfl) (fun _ _ _ _ h => h) rfl (by intro w; go_simp; (try with_reducible rfl)) ?_; (try simp only [Act.put, List.setIfInBounds_toArray, List.set_cons_zero, List.set_cons_succ]); (try simp only [List.getElem_toArray, List.getElem_cons_zero, List.getElem_cons_succ]); refine H.takeRun (by repeat (first | with_reducible exact List.Sublist.refl _ | with_reducible apply List.Sublist.cons_cons | with_reducible apply List.Sublist.cons)) 10 rfl (by kernel_rfl) (by kernel_rfl) (by kernel_rfl) (fun _ _ _ _ h => h) rfl (by intro w; go_simp; (try with_reducible rfl)) ?_; (try simp only [Act.put, List.setIfInBounds_toArray, List.set_cons_zero, List.set_cons_succ]); (try simp only [List.getElem_toArray, List.getElem_cons_zero, List.getElem_cons_succ]); refine held_one (i := 1) (by kernel_rfl) rfl rfl ?_; refine H.old1 oU rfl rfl (by repeat (first | with_reducible exact List.mem_cons_self | apply List.mem_cons_of_mem)) (by first | with_reducible exact G | with_reducible exact get_20 _ _ | with_reducible exact get_21 _ _ | with_reducible exact limbs_o0 _ | with_reducible exact limbs_o1 _ | with_reducible exact limbs_o2 _ | with_reducible exact limbs_o3 _ | with_reducible exact limbs_o4 _ | with_reducible exact limbs_o5 _) ?_; refine H.next (by repeat (first | with_reducible exact List.Sublist.refl _ | with_reducible apply List.Sublist.cons_cons | with_reducible apply List.Sublist.cons)) ?_; (try simp only [Act.put, List.setIfInBounds_toArray, List.set_cons_zero, List.set_cons_succ]); (try simp only [List.getElem_toArray, List.getElem_cons_zero, List.getElem_cons_succ]); refine H.takeRun (by repeat (first | with_reducible exact List.Sublist.refl _ | with_reducible apply List.Sublist.cons_cons | with_reducible apply List.Sublist.cons)) 11 rfl (by kernel_rfl) (by kernel_rfl) (by kernel_rfl) (fun _ _ _ _ h => h) rfl (by intro w; go_simp; (try with_reducible rfl)) ?_; (try simp only [Act.put, List.setIfInBounds_toArray, List.set_cons_zero, List.set_cons_succ]); (try simp only [List.getElem_toArray, List.getElem_cons_zero, List.getElem_cons_succ]); refine H.takeRun (by repeat (first | with_reducible exact List.Sublist.refl _ | with_reducible apply List.Sublist.cons_cons | with_reducible apply List.Sublist.cons)) 12 rfl (by kernel_rfl) (by kernel_rfl) (by kernel_rfl) (fun _ _ _ _ h => h) rfl (by intro w; go_simp; (try with_reducible rfl)) ?_; (try simp only [Act.put, List.setIfInBounds_toArray, List.set_cons_zero, List.set_cons_succ]); (try simp only [List.getElem_toArray, List.getElem_cons_zero, List.getElem_cons_succ]); refine held_one (i := 13) (by kernel_rfl) rfl rfl ?_; refine H.ost1 oU rfl rfl (cells_int _ _) (by repeat (first | with_reducible exact Upd.head _ | apply Upd.tail)) (set_two_d _ a (2 * m) _ _ _ HDD.out HM.out (by omega)) (by rfl) (by exact one_of rfl) (by first | exact ble_le rfl | (change _ + 1 ≤ 12; omega) | (change _ + 1 ≤ 6; omega)) ?_; intro w H; refine H.next (by repeat (first | with_reducible exact List.Sublist.refl _ | with_reducible apply List.Sublist.cons_cons | with_reducible apply List.Sublist.cons)) ?_; (try simp only [Act.put]); refine wpAnyH_done (by kernel_rfl) ?_ _)
    | (go_at_call 48; ((with_reducible refine (cL1 _).mono ?_); rintro e w ⟨rfl, hb⟩; replace H := H.call hb; clear hb))
    | (go_at_call 48; ((with_reducible refine (cL2 _).mono ?_); rintro e w ⟨rfl, hb⟩; replace H := H.call hb; clear hb))
    | (go_at_call 48; ((with_reducible refine (cL3 _).mono ?_); rintro e w ⟨rfl, hb⟩; replace H := H.call hb; clear hb))
    | (go_at_call 38; ((with_reducible refine (cC _).mono ?_); rintro e w ⟨rfl, hb⟩; replace H := H.call hb; clear hb))
    | (go_at_call 52; ((with_reducible refine (cS _).mono ?_); rintro e w ⟨rfl, hb⟩; replace H := H.call hb; clear hb))
    )
        all_goals
          go_roundw
          case rel => exact ⟨m, 2 * (m : Int), rfl, by omega, by go_num, by rw [HQ2.out, HR2.out, E1.out, E2.out]; exact H.sub (by repeat (first | with_reducible exact List.Sublist.refl _ | with_reducible apply List.Sublist.cons_cons | with_reducible apply List.Sublist.cons))⟩
          case measure => simp [intOf] <;> omega
end Go.Proofs.YtdcgcjmajacgiaaDoor
