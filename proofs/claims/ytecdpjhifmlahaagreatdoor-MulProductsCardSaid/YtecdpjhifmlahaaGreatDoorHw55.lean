/- Part 55 of what is proved: Lm, Wmul. -/
import Derived.Test.YtecdpjhifmlahaaGreatDoorHw7
import Derived.Test.YtecdpjhifmlahaaGreatDoorHw8
import Derived.Test.YtecdpjhifmlahaaGreatDoorHw9
import Derived.Test.YtecdpjhifmlahaaGreatDoorHw10
import Derived.Test.YtecdpjhifmlahaaGreatDoorHw11
import Derived.Test.YtecdpjhifmlahaaGreatDoorHw35
import Derived.Test.YtecdpjhifmlahaaGreatDoorHw41
set_option linter.unusedSimpArgs false
set_option linter.unusedVariables false
set_option linter.unnecessarySimpa false
set_option maxRecDepth 100000
set_option maxHeartbeats 1600000
namespace Go.Proofs.YtecdpjhifmlahaaGreatDoor
open Go.RowKit
def setL (V j v : Nat) : Nat := V % 2 ^ (64 * j) + v * 2 ^ (64 * j) + V / 2 ^ (64 * (j + 1)) * 2 ^ (64 * (j + 1))
theorem split3 (V j : Nat) : V = V % 2 ^ (64 * j) + limbN V j * 2 ^ (64 * j) + V / 2 ^ (64 * (j + 1)) * 2 ^ (64 * (j + 1)) := by
  have h := Nat.div_add_mod V (2 ^ (64 * (j + 1)))
  rw [Nat.mul_comm] at h
  rw [← mod_low]; omega
theorem setL_sum (V j v : Nat) : setL V j v + limbN V j * 2 ^ (64 * j) = V + v * 2 ^ (64 * j) := by
  have := split3 V j
  unfold setL; omega
theorem limbN_above (x h j i : Nat) (hx : x < 2 ^ (64 * j)) (hi : j ≤ i) : limbN (x + h * 2 ^ (64 * j)) i = limbN (h * 2 ^ (64 * j)) i := by
  unfold limbN
  rw [show 64 * i = 64 * j + 64 * (i - j) by omega, Nat.pow_add, ← Nat.div_div_eq_div_mul, ← Nat.div_div_eq_div_mul, Nat.add_mul_div_right _ _ (pw_pos j), Nat.div_eq_of_lt hx, Nat.zero_add, Nat.mul_div_cancel _ (pw_pos j)]
theorem limbN_under (x h j i : Nat) (hi : i < j) : limbN (x + h * 2 ^ (64 * j)) i = limbN x i := by
  rw [← limbN_mod (x + h * 2 ^ (64 * j)) i j hi, Nat.add_mul_mod_self_right, limbN_mod x i j hi]
theorem limbN_setL (V j v i : Nat) (hv : v < 18446744073709551616) : limbN (setL V j v) i = if i = j then v else limbN V i := by
  have hlo := Nat.mod_lt V (pw_pos j)
  have hx : ∀ u, u < 18446744073709551616 → V % 2 ^ (64 * j) + u * 2 ^ (64 * j) < 2 ^ (64 * (j + 1)) := by
    intro u hu
    have h2 : (u + 1) * 2 ^ (64 * j) ≤ 18446744073709551616 * 2 ^ (64 * j) := Nat.mul_le_mul_right _ (by omega)
    rw [pw_succ, Nat.mul_comm _ 18446744073709551616]
    rw [Nat.add_mul] at h2; omega
  by_cases h : i ≤ j
  · unfold setL
    rw [limbN_under _ _ (j + 1) i (by omega), limbN_put _ v j i hlo hv]
    split
    · rfl
    · rw [limbN_mod V i j (by omega)]
  · rw [if_neg (by omega)]
    unfold setL
    rw [limbN_above _ _ (j + 1) i (hx v hv) (by omega)]
    conv => rhs; rw [split3 V j]
    rw [limbN_above _ _ (j + 1) i (hx _ (limbN_lt V j)) (by omega)]
def limbs12 (a : Nat) : Array Value := #[.int .u64 (limb a 0), .int .u64 (limb a 1), .int .u64 (limb a 2), .int .u64 (limb a 3), .int .u64 (limb a 4), .int .u64 (limb a 5), .int .u64 (limb a 6), .int .u64 (limb a 7), .int .u64 (limb a 8), .int .u64 (limb a 9), .int .u64 (limb a 10), .int .u64 (limb a 11)]
theorem limbs12_size (a : Nat) : (limbs12 a).size = 12 := rfl
theorem limbs12_get (a i : Nat) (h : i < 12) : (limbs12 a)[i]? = some (.int .u64 (limb a i)) := by
  have : i = 0 ∨ i = 1 ∨ i = 2 ∨ i = 3 ∨ i = 4 ∨ i = 5 ∨ i = 6 ∨ i = 7 ∨ i = 8 ∨ i = 9 ∨ i = 10 ∨ i = 11 := by omega
  rcases this with rfl | rfl | rfl | rfl | rfl | rfl | rfl | rfl | rfl | rfl | rfl | rfl <;> rfl
theorem limbs12_set (V j v : Nat) (hj : j < 12) (hv : v < 18446744073709551616) : (limbs12 V).setIfInBounds j (.int .u64 ((v : Nat) : Int)) = limbs12 (setL V j v) := by
  apply Array.ext_getElem?
  intro i
  by_cases hi : i < 12
  · rw [limbs12_get _ i hi, Array.getElem?_setIfInBounds]
    unfold limb
    rw [limbN_setL V j v i hv]
    by_cases h : j = i
    · rw [if_pos h, if_pos (by rw [limbs12_size]; omega), if_pos h.symm]
    · rw [if_neg h, if_neg (fun e => h e.symm)]; exact limbs12_get V i hi
  · rw [Array.getElem?_eq_none (by rw [Array.size_setIfInBounds, limbs12_size]; omega), Array.getElem?_eq_none (by rw [limbs12_size]; omega)]
def MulAt (a b i k V c : Nat) : Prop := V + c * 2 ^ (64 * (i + k)) = a % 2 ^ (64 * i) * b + limbN a i * (b % 2 ^ (64 * k)) * 2 ^ (64 * i) ∧ c < 18446744073709551616
def macN (x y l c : Nat) : Nat := x * y + l + c
theorem mac_lt (x y l c : Nat) (hx : x < 18446744073709551616) (hy : y < 18446744073709551616) (hl : l < 18446744073709551616) (hc : c < 18446744073709551616) : macN x y l c / 18446744073709551616 < 18446744073709551616 := by
  have h : x * y ≤ 18446744073709551615 * 18446744073709551615 := Nat.mul_le_mul (by omega) (by omega)
  unfold macN
  generalize x * y = p at *
  omega
theorem mul_start (a b i V : Nat) (h : V = a % 2 ^ (64 * i) * b) : MulAt a b i 0 V 0 := by
  refine ⟨?_, by decide⟩
  rw [Nat.mul_zero, Nat.pow_zero, Nat.mod_one, h]; simp
theorem mul_step (a b i k V c : Nat) (h : MulAt a b i k V c) :
    MulAt a b i (k + 1) (setL V (i + k) (macN (limbN a i) (limbN b k) (limbN V (i + k)) c % 18446744073709551616)) (macN (limbN a i) (limbN b k) (limbN V (i + k)) c / 18446744073709551616) := by
  obtain ⟨h1, h2⟩ := h
  refine ⟨?_, mac_lt _ _ _ _ (limbN_lt _ _) (limbN_lt _ _) (limbN_lt _ _) h2⟩
  have hs := setL_sum V (i + k) (macN (limbN a i) (limbN b k) (limbN V (i + k)) c % 18446744073709551616)
  have hd := Nat.div_add_mod (macN (limbN a i) (limbN b k) (limbN V (i + k)) c) 18446744073709551616
  have hm : macN (limbN a i) (limbN b k) (limbN V (i + k)) c = limbN a i * limbN b k + limbN V (i + k) + c := rfl
  generalize setL V (i + k) (macN (limbN a i) (limbN b k) (limbN V (i + k)) c % 18446744073709551616) = V' at *
  rw [show i + (k + 1) = (i + k) + 1 from rfl, pw_succ (i + k), mod_low b k, Nat.mul_add (limbN a i), Nat.add_mul]
  have e1 : limbN a i * (limbN b k * 2 ^ (64 * k)) * 2 ^ (64 * i) = limbN a i * limbN b k * 2 ^ (64 * (i + k)) := by
    rw [Nat.mul_add 64, Nat.pow_add, ← Nat.mul_assoc, Nat.mul_assoc _ (2 ^ (64 * k)), Nat.mul_comm (2 ^ (64 * k))]
  rw [e1]
  generalize limbN a i * (b % 2 ^ (64 * k)) * 2 ^ (64 * i) = Z at *
  generalize a % 2 ^ (64 * i) * b = Y at *
  rw [hm] at hs hd ⊢
  generalize limbN a i * limbN b k = p at *
  generalize limbN V (i + k) = l at *
  generalize 2 ^ (64 * (i + k)) = P at *
  have e2 : (p + l + c) * P = p * P + l * P + c * P := by rw [Nat.add_mul, Nat.add_mul]
  have e3 : (p + l + c) * P = (p + l + c) / 18446744073709551616 * (P * 18446744073709551616) + (p + l + c) % 18446744073709551616 * P := by
    conv => lhs; rw [← hd]
    rw [Nat.add_mul, Nat.mul_comm 18446744073709551616, Nat.mul_assoc, Nat.mul_comm 18446744073709551616]
  generalize (p + l + c) / 18446744073709551616 * (P * 18446744073709551616) = q1 at *
  generalize (p + l + c) % 18446744073709551616 * P = q2 at *
  generalize p * P = pp at *
  generalize l * P = ll at *
  generalize c * P = cc at *
  omega
theorem mul_row (a b i V c : Nat) (h : MulAt a b i 6 V c) (hb : b < top6) (hz : limbN V (i + 6) = 0) : setL V (i + 6) c = a % 2 ^ (64 * (i + 1)) * b := by
  obtain ⟨h1, h2⟩ := h
  have hs := setL_sum V (i + 6) c
  rw [hz, Nat.zero_mul, Nat.add_zero, h1, ← top6, Nat.mod_eq_of_lt hb] at hs
  rw [hs, mod_low, Nat.add_mul, Nat.mul_right_comm]
theorem mul_high (a b i V : Nat) (h : V = a % 2 ^ (64 * i) * b) (hb : b < top6) (j : Nat) (hj : i + 6 ≤ j) : limbN V j = 0 := by
  have h1 : a % 2 ^ (64 * i) < 2 ^ (64 * i) := Nat.mod_lt _ (pw_pos i)
  have h2 : V < 2 ^ (64 * (i + 6)) := by
    rw [h, Nat.mul_add, Nat.pow_add, ← top6]
    rcases Nat.eq_zero_or_pos b with h0 | h0
    · rw [h0, Nat.mul_zero]; exact Nat.mul_pos (pw_pos i) (by unfold top6; exact pw_pos 6)
    · exact Nat.lt_of_lt_of_le ((Nat.mul_lt_mul_right h0).2 h1) (Nat.mul_le_mul_left _ (Nat.le_of_lt hb))
  unfold limbN
  rw [Nat.div_eq_of_lt (Nat.lt_of_lt_of_le h2 (Nat.pow_le_pow_right (by decide) (by omega)))]
theorem setL_high (V j v n : Nat) (hv : v < 18446744073709551616) (hj : j < n) (h : ∀ i, n ≤ i → limbN V i = 0) : ∀ i, n ≤ i → limbN (setL V j v) i = 0 := by
  intro i hi
  rw [limbN_setL V j v i hv, if_neg (by omega)]; exact h i hi
theorem mac_words (x y l c : Nat) (hx : x < 18446744073709551616) (hy : y < 18446744073709551616) (hl : l < 18446744073709551616) (hc : c < 18446744073709551616) :
    addW (addW (mulLo (x : Int) y) (l : Int) false) (c : Int) false = ((macN x y l c % 18446744073709551616 : Nat) : Int) ∧
    addW (addW (mulHi (x : Int) y) 0 (carW (mulLo (x : Int) y) (l : Int) false)) 0 (carW (addW (mulLo (x : Int) y) (l : Int) false) (c : Int) false) = ((macN x y l c / 18446744073709551616 : Nat) : Int) := by
  have h : x * y ≤ 18446744073709551615 * 18446744073709551615 := Nat.mul_le_mul (by omega) (by omega)
  unfold mulLo mulHi macN
  rw [Int.toNat_natCast, Int.toNat_natCast]
  generalize x * y = p at *
  unfold addW carW
  simp only [cond_false]
  by_cases h1 : (18446744073709551616 : Int) ≤ ((p % 18446744073709551616 : Nat) : Int) + (l : Int) + 0
  · rw [decide_eq_true h1]
    simp only [cond_true]
    by_cases h2 : (18446744073709551616 : Int) ≤ (((p % 18446744073709551616 : Nat) : Int) + (l : Int) + 0) % 18446744073709551616 + (c : Int) + 0
    · rw [decide_eq_true h2]; simp only [cond_true]; omega
    · rw [decide_eq_false h2]; simp only [cond_false]; omega
  · rw [decide_eq_false h1]
    simp only [cond_false]
    by_cases h2 : (18446744073709551616 : Int) ≤ (((p % 18446744073709551616 : Nat) : Int) + (l : Int) + 0) % 18446744073709551616 + (c : Int) + 0
    · rw [decide_eq_true h2]; simp only [cond_true]; omega
    · rw [decide_eq_false h2]; simp only [cond_false]; omega
theorem pw_mono0 (j i : Nat) (h : j ≤ i) : 2 ^ (64 * j) ≤ 2 ^ (64 * i) := Nat.pow_le_pow_right (by decide) (Nat.mul_le_mul_left 64 h)
theorem top_le_pw (k : Nat) (hk : 6 ≤ k) : top6 ≤ 2 ^ (64 * k) := by rw [top6.eq_1]; exact pw_mono0 6 k hk
theorem over_step (V k : Nat) (hk : 6 ≤ k) : decide (top6 ≤ V % 2 ^ (64 * (k + 1))) = (decide (top6 ≤ V % 2 ^ (64 * k)) || !decide (limbN V k = 0)) := by
  rw [mod_low]
  by_cases h : limbN V k = 0
  · rw [h, Nat.zero_mul, Nat.add_zero]; simp
  · have h1 : top6 ≤ V % 2 ^ (64 * k) + limbN V k * 2 ^ (64 * k) := by
      have : 2 ^ (64 * k) ≤ limbN V k * 2 ^ (64 * k) := Nat.le_mul_of_pos_left _ (Nat.pos_of_ne_zero h)
      have h2 := top_le_pw k hk
      omega
    rw [decide_eq_true h1, decide_eq_false h]; simp
open Go.RowKit
theorem ext_12 (a : Nat) : (limbs12 a).extract 0 (0 + (limbs12 a).size) = limbs12 a := by rw [Nat.zero_add]; exact Array.extract_size
theorem limbs12_zero : limbs12 0 = #[.int .u64 0, .int .u64 0, .int .u64 0, .int .u64 0, .int .u64 0, .int .u64 0, .int .u64 0, .int .u64 0, .int .u64 0, .int .u64 0, .int .u64 0, .int .u64 0] := by
  unfold limbs12; simp only [limb_zero]
theorem tV_s : (Tryz.prog.info? 184).map (·.size) = some 12 := by kernel_rfl
theorem tV_z : (Tryz.prog.info? 184).bind (·.zero) = some (.agg (limbs12 0)) := by rw [limbs12_zero]; kernel_rfl
theorem rV : IsRow Tryz.prog 184 12 (limbs12 0) := ⟨⟨_, Tryz.underlying184, rfl⟩, tV_s, tV_z⟩
theorem run_index_w (a k : Nat) (hk : k < 6) (w : World) : (Instr.index 63 (.agg (limbs a)) (.int .i64 (k : Int))).run Tryz.prog w = .ok (.int .u64 (limb a k)) w := run_index_wide w a k hk
theorem run_index_12 (a k : Nat) (hk : k < 12) (w : World) : (Instr.index 184 (.agg (limbs12 a)) (.int .i64 (k : Int))).run Tryz.prog w = .ok (.int .u64 (limb a k)) w :=
  run_index_arr _ Tryz.underlying184 Tryz.isAgg25 Tryz.sizeOf25 hk (limbs12_get a k hk)
theorem set_12 (V j v : Nat) (hj : j < 12) (hv : v < 18446744073709551616) : setRow (limbs12 V) j (#[.int .u64 ((v : Nat) : Int)] : Array Value).toList = limbs12 (setL V j v) := limbs12_set V j v hj hv
theorem set_low (V k : Nat) (hk : k < 6) : setRow (limbs (V % 2 ^ (64 * k))) k (#[.int .u64 (limb V k)] : Array Value).toList = limbs (V % 2 ^ (64 * (k + 1))) := by
  rw [mod_low]; exact limbs_put _ _ k hk (Nat.mod_lt _ (pw_pos k)) (limbN_lt V k)
theorem over_low (V k : Nat) (hk : k ≤ 6) : decide (top6 ≤ V % 2 ^ (64 * k)) = false := by
  have h1 := Nat.mod_lt V (pw_pos k)
  have h2 : 2 ^ (64 * k) ≤ top6 := by rw [top6.eq_1]; exact pw_mono0 k 6 hk
  rw [decide_eq_false_iff_not]; omega
theorem prod_all (a b k : Nat) (hk : k = 12) (ha : a < top6) (hb : b < top6) : a * b % 2 ^ (64 * k) = a * b := by
  refine Nat.mod_eq_of_lt ?_
  have : a * b < top6 * top6 := Nat.mul_lt_mul'' ha hb
  have e : 2 ^ (64 * k) = top6 * top6 := by
    rw [show 64 * k = 64 * 6 + 64 * (k - 6) by omega, Nat.pow_add, ← top6.eq_1, show k - 6 = 6 by omega, ← top6.eq_1]
  rw [e]; exact this
theorem a_all (a : Nat) (ha : a < top6) (k : Nat) (hk : k = 6) : a % 2 ^ (64 * k) = a := Nat.mod_eq_of_lt (by rw [hk, ← top6.eq_1]; exact ha)
set_option maxHeartbeats 3200000 in
theorem wideMul_any (a b : Nat) (w0 : World) (ha : a < top6) (hb : b < top6) :
    Calls Tryz.prog 92 #[W a, W b] w0 fun e w' => e = .returned (.tuple #[W (a * b), .bool (decide (top6 ≤ a * b))]) ∧ Below w0.heap.size w0 w' := by
  have H := Own.start w0
  have HA := Lib.hid ha
  have HB := Lib.hid hb
  clear ha hb
  go_enter Tryz.func92, Tryz.ntmps92
  go_wp2_with (first
    | ((with_reducible show wpList _ _ _ (⟨some 2, .box _ _, _, _, _, _⟩ :: _) _ _); refine H.xb ?_; (intro ga w H; simp only [Act.put, q1_, q2_, q3_]))
    | ((with_reducible show wpList _ _ _ (⟨some 3, .box _ _, _, _, _, _⟩ :: _) _ _); refine H.xb ?_; (intro gb w H; simp only [Act.put, q1_, q2_, q3_]))
    | ((with_reducible show wpList _ _ _ (⟨some 4, .alloc 63, _, _, _, _⟩ :: _) _ _); refine H.xa ?_; (intro gp w H; simp only [Act.put, q1_, q2_, q3_]))
    | ((with_reducible show wpList _ _ _ (⟨some 6, .alloc 184, _, _, _, _⟩ :: _) _ _); refine H.xa ?_; (intro gv w H; simp only [Act.put, q1_, q2_, q3_]))
    | ((with_reducible show wpList _ _ _ (⟨_, .box _ _, _, _, _, _⟩ :: _) _ _); refine H.xb ?_; (intro g w H; simp only [Act.put, q1_, q2_, q3_]))
    | ((with_reducible show wpList _ _ _ (⟨_, .alloc _, _, _, _, _⟩ :: _) _ _); refine H.xa ?_; (intro g w H; simp only [Act.put, q1_, q2_, q3_]))
    | ((with_reducible show wpList _ _ _ (⟨_, .load _ _, _, _, _, _⟩ :: _) _ _); (first | refine H.xl ?_ | refine H.xm ?_); simp only [Act.put, q1_, q2_, q3_])
    | ((with_reducible show wpList _ _ _ (⟨_, .store _ _ _, _, _, _, _⟩ :: _) _ _); (first | refine H.xs ?_ | refine H.xt ?_); (intro w H; simp only [Act.put]))
    )
  go_loopw [19] (fun i wr => ∃ (k V : Nat), k ≤ 6 ∧ i = .int .i64 k ∧ Hid (V = a % 2 ^ (64 * k) * b) ∧ Own w0 wr [(gv, 184, limbs12 V), (gp, 63, limbs 0), (gb, 63, limbs b), (ga, 63, limbs a)]) (fun i _ => 6 - (intOf i).toNat)
  case atStart => exact ⟨0, 0, by omega, rfl, Lib.hid (by rw [Nat.mul_zero, Nat.pow_zero, Nat.mod_one, Nat.zero_mul]), H⟩
  case round =>
    clear H
    obtain ⟨k, V, hk, rfl, hV, H⟩ := hrel
    by_cases hlt : k < 6
    · have ix := run_index_w a k hlt
      have hd : decide ((k : Int) < 6) = true := by simp; omega
      go_wp2_with (first
    | ((with_reducible show wpList _ _ _ (⟨some 2, .box _ _, _, _, _, _⟩ :: _) _ _); refine H.xb ?_; (intro ga w H; simp only [Act.put, q1_, q2_, q3_]))
    | ((with_reducible show wpList _ _ _ (⟨some 3, .box _ _, _, _, _, _⟩ :: _) _ _); refine H.xb ?_; (intro gb w H; simp only [Act.put, q1_, q2_, q3_]))
    | ((with_reducible show wpList _ _ _ (⟨some 4, .alloc 63, _, _, _, _⟩ :: _) _ _); refine H.xa ?_; (intro gp w H; simp only [Act.put, q1_, q2_, q3_]))
    | ((with_reducible show wpList _ _ _ (⟨some 6, .alloc 184, _, _, _, _⟩ :: _) _ _); refine H.xa ?_; (intro gv w H; simp only [Act.put, q1_, q2_, q3_]))
    | ((with_reducible show wpList _ _ _ (⟨_, .box _ _, _, _, _, _⟩ :: _) _ _); refine H.xb ?_; (intro g w H; simp only [Act.put, q1_, q2_, q3_]))
    | ((with_reducible show wpList _ _ _ (⟨_, .alloc _, _, _, _, _⟩ :: _) _ _); refine H.xa ?_; (intro g w H; simp only [Act.put, q1_, q2_, q3_]))
    | ((with_reducible show wpList _ _ _ (⟨_, .load _ _, _, _, _, _⟩ :: _) _ _); (first | refine H.xl ?_ | refine H.xm ?_); simp only [Act.put, q1_, q2_, q3_])
    | ((with_reducible show wpList _ _ _ (⟨_, .store _ _ _, _, _, _, _⟩ :: _) _ _); (first | refine H.xs ?_ | refine H.xt ?_); (intro w H; simp only [Act.put]))
    )
      go_loopw [9, 24] (fun v i wr => ∃ (j c V : Nat), j ≤ 6 ∧ i = .int .i64 j ∧ v = .int .u64 (c : Nat) ∧ Hid (MulAt a b k j V c) ∧ Hid (∀ i, k + 6 ≤ i → limbN V i = 0) ∧ Own w0 wr [(gv, 184, limbs12 V), (gp, 63, limbs 0), (gb, 63, limbs b), (ga, 63, limbs a)]) (fun _ i _ => 6 - (intOf i).toNat)
      case atStart => exact ⟨0, 0, V, by omega, rfl, rfl, Lib.hid (mul_start a b k V hV.out), Lib.hid (fun i hi => mul_high a b k V hV.out HB.out i hi), H⟩
      case round =>
        clear H hV V ix
        obtain ⟨j, c, V, hj, rfl, rfl, hM, hZ, H⟩ := hrel
        by_cases hjt : j < 6
        · have iy := run_index_w b j hjt
          have hc : c < 18446744073709551616 := hM.out.2
          have hmac := mac_words (limbN a k) (limbN b j) (limbN V (k + j)) c (limbN_lt _ _) (limbN_lt _ _) (limbN_lt _ _) hc
          have hlow : macN (limbN a k) (limbN b j) (limbN V (k + j)) c % 18446744073709551616 < 18446744073709551616 := Nat.mod_lt _ (by decide)
          have M1 := mul_step a b k j V c hM.out
          generalize macN (limbN a k) (limbN b j) (limbN V (k + j)) c % 18446744073709551616 = lo2 at hlow hmac M1
          generalize macN (limbN a k) (limbN b j) (limbN V (k + j)) c / 18446744073709551616 = hi2 at hmac M1
          have M2 := Lib.hid M1
          have Z2 := Lib.hid (setL_high V (k + j) lo2 (k + 6) hlow (by omega) hZ.out)
          have w0' : IsW 0 := ⟨by decide, by decide⟩
          have wc : IsW (c : Int) := ⟨by omega, by omega⟩
          have hx : limb V (k + j) = ((limbN V (k + j) : Nat) : Int) := rfl
          have hadd : ∀ x y c, IsW x → IsW y → IsW (addW x y c) := by
            intro x y c _ _; unfold IsW addW; omega
          have wl : IsW (mulLo (limb a k) (limb b j)) := by unfold mulLo IsW; have := Nat.mod_lt ((limb a k).toNat * (limb b j).toNat) (show 0 < 18446744073709551616 by decide); omega
          have wh : IsW (mulHi (limb a k) (limb b j)) := by
            have h1 : (limb a k).toNat < 18446744073709551616 := by unfold limb; rw [Int.toNat_natCast]; exact limbN_lt _ _
            have h2 : (limb b j).toNat < 18446744073709551616 := by unfold limb; rw [Int.toNat_natCast]; exact limbN_lt _ _
            have h3 : (limb a k).toNat * (limb b j).toNat ≤ 18446744073709551615 * 18446744073709551615 := Nat.mul_le_mul (by omega) (by omega)
            unfold mulHi IsW; omega
          have cM := fun w => wordMul_any (limb a k) (limb b j) w (limb_w a k) (limb_w b j)
          have c1 := fun w => wordAdd_any (mulLo (limb a k) (limb b j)) (limb V (k + j)) false w wl (limb_w _ _)
          have c2 := fun w => wordAdd_any (mulHi (limb a k) (limb b j)) 0 (carW (mulLo (limb a k) (limb b j)) (limb V (k + j)) false) w wh w0'
          have c3 := fun w => wordAdd_any (addW (mulLo (limb a k) (limb b j)) (limb V (k + j)) false) (c : Int) false w (hadd _ _ _ wl (limb_w _ _)) wc
          have c4 := fun w => wordAdd_any (addW (mulHi (limb a k) (limb b j)) 0 (carW (mulLo (limb a k) (limb b j)) (limb V (k + j)) false)) 0 (carW (addW (mulLo (limb a k) (limb b j)) (limb V (k + j)) false) (c : Int) false) w (hadd _ _ _ wh w0') w0'
          unfold limb at cM c1 c2 c3 c4
          rw [hmac.1] at c3
          rw [hmac.2] at c4
          have e1 : limb V (k + j) = ((limbN V (k + j) : Nat) : Int) := rfl
          rw [← hx] at c1 c2 c3 c4
          have ea : ((limbN a k : Nat) : Int) = limb a k := rfl
          have eb : ((limbN b j : Nat) : Int) = limb b j := rfl
          rw [ea, eb] at cM c1 c2 c3 c4
          generalize mulLo (limb a k) (limb b j) = lo0 at cM c1 c2 c3 c4
          generalize mulHi (limb a k) (limb b j) = hi0 at cM c2 c4
          generalize carW lo0 (limb V (k + j)) false = q1 at c1 c2 c4
          generalize carW (addW lo0 (limb V (k + j)) false) (c : Int) false = q2 at c3 c4
          generalize addW lo0 (limb V (k + j)) false = lo1 at c1 c3
          generalize addW hi0 0 q1 = hi1 at c2 c4
          generalize carW hi0 0 q1 = q3 at c2
          generalize carW hi1 0 q2 = q4 at c4
          clear M1 hmac hadd wl wh w0' wc hx ea eb e1 hM hZ hc
          have G12 : (limbs12 V)[k + j]? = some (.int .u64 (limb V (k + j))) := limbs12_get V (k + j) (by omega)
          go_wp2_with (first
    | ((with_reducible show wpList _ _ _ (⟨_, .load 25 _, _, _, _, _⟩ :: _) _ _); refine H.xm ?_ (hv := by first | with_reducible exact G12); simp only [Act.put, q1_, q2_, q3_])
    | ((with_reducible show wpList _ _ _ (⟨_, .store 25 _ _, _, _, _, _⟩ :: _) _ _); refine H.xt ?_ (hv := set_12 _ _ _ (by omega) hlow); (intro w H; simp only [Act.put]))
    | ((with_reducible show wpList _ _ _ (⟨_, .box _ _, _, _, _, _⟩ :: _) _ _); refine H.xb ?_; (intro g w H; simp only [Act.put, q1_, q2_, q3_]))
    | ((with_reducible show wpList _ _ _ (⟨_, .alloc _, _, _, _, _⟩ :: _) _ _); refine H.xa ?_; (intro g w H; simp only [Act.put, q1_, q2_, q3_]))
    | ((with_reducible show wpList _ _ _ (⟨_, .load _ _, _, _, _, _⟩ :: _) _ _); (first | refine H.xl ?_ | refine H.xm ?_); simp only [Act.put, q1_, q2_, q3_])
    | ((with_reducible show wpList _ _ _ (⟨_, .store _ _ _, _, _, _, _⟩ :: _) _ _); (first | refine H.xs ?_ | refine H.xt ?_); (intro w H; simp only [Act.put]))
    | (go_at_call 183; ((with_reducible refine (cM _).mono ?_); rintro e w' ⟨rfl, rfl⟩))
    | (go_at_call 184; ((with_reducible refine (c1 _).mono ?_); rintro e w' ⟨rfl, rfl⟩))
    | (go_at_call 184; ((with_reducible refine (c2 _).mono ?_); rintro e w' ⟨rfl, rfl⟩))
    | (go_at_call 184; ((with_reducible refine (c3 _).mono ?_); rintro e w' ⟨rfl, rfl⟩))
    | (go_at_call 184; ((with_reducible refine (c4 _).mono ?_); rintro e w' ⟨rfl, rfl⟩))
    )
          all_goals
            go_roundw
            case rel => exact ⟨j + 1, _, _, by omega, by go_num, rfl, M2, Z2, H⟩
            case measure => simp [intOf]; omega
        · have : j = 6 := by omega
          subst this
          have hc : c < 18446744073709551616 := hM.out.2
          have R := Lib.hid (mul_row a b k V c hM.out HB.out (hZ.out (k + 6) (by omega)))
          clear hM hZ hjt
          go_wp2_with (first
    | ((with_reducible show wpList _ _ _ (⟨_, .store 25 _ _, _, _, _, _⟩ :: _) _ _); refine H.xt ?_ (hv := set_12 _ _ _ (by omega) hc); (intro w H; simp only [Act.put]))
    | ((with_reducible show wpList _ _ _ (⟨_, .box _ _, _, _, _, _⟩ :: _) _ _); refine H.xb ?_; (intro g w H; simp only [Act.put, q1_, q2_, q3_]))
    | ((with_reducible show wpList _ _ _ (⟨_, .alloc _, _, _, _, _⟩ :: _) _ _); refine H.xa ?_; (intro g w H; simp only [Act.put, q1_, q2_, q3_]))
    | ((with_reducible show wpList _ _ _ (⟨_, .load _ _, _, _, _, _⟩ :: _) _ _); (first | refine H.xl ?_ | refine H.xm ?_); simp only [Act.put, q1_, q2_, q3_])
    | ((with_reducible show wpList _ _ _ (⟨_, .store _ _ _, _, _, _, _⟩ :: _) _ _); (first | refine H.xs ?_ | refine H.xt ?_); (intro w H; simp only [Act.put]))
    )
          all_goals
            go_roundw
            case rel => exact ⟨k + 1, _, by omega, by go_num, R, H⟩
            case measure => simp [intOf]; omega
    · have hk6 : k = 6 := by omega
      subst hk6
      have hV2 : V = a * b := by have := hV.out; rw [a_all a HA.out 6 rfl] at this; exact this
      subst hV2
      clear hV hlt hk
      go_wp2_with (first
    | ((with_reducible show wpList _ _ _ (⟨some 2, .box _ _, _, _, _, _⟩ :: _) _ _); refine H.xb ?_; (intro ga w H; simp only [Act.put, q1_, q2_, q3_]))
    | ((with_reducible show wpList _ _ _ (⟨some 3, .box _ _, _, _, _, _⟩ :: _) _ _); refine H.xb ?_; (intro gb w H; simp only [Act.put, q1_, q2_, q3_]))
    | ((with_reducible show wpList _ _ _ (⟨some 4, .alloc 63, _, _, _, _⟩ :: _) _ _); refine H.xa ?_; (intro gp w H; simp only [Act.put, q1_, q2_, q3_]))
    | ((with_reducible show wpList _ _ _ (⟨some 6, .alloc 184, _, _, _, _⟩ :: _) _ _); refine H.xa ?_; (intro gv w H; simp only [Act.put, q1_, q2_, q3_]))
    | ((with_reducible show wpList _ _ _ (⟨_, .box _ _, _, _, _, _⟩ :: _) _ _); refine H.xb ?_; (intro g w H; simp only [Act.put, q1_, q2_, q3_]))
    | ((with_reducible show wpList _ _ _ (⟨_, .alloc _, _, _, _, _⟩ :: _) _ _); refine H.xa ?_; (intro g w H; simp only [Act.put, q1_, q2_, q3_]))
    | ((with_reducible show wpList _ _ _ (⟨_, .load _ _, _, _, _, _⟩ :: _) _ _); (first | refine H.xl ?_ | refine H.xm ?_); simp only [Act.put, q1_, q2_, q3_])
    | ((with_reducible show wpList _ _ _ (⟨_, .store _ _ _, _, _, _, _⟩ :: _) _ _); (first | refine H.xs ?_ | refine H.xt ?_); (intro w H; simp only [Act.put]))
    )
      go_loopw [5, 75] (fun o i wr => ∃ (j : Nat), j ≤ 12 ∧ i = .int .i64 j ∧ o = .bool (decide (top6 ≤ a * b % 2 ^ (64 * j))) ∧ Own w0 wr [(gv, 184, limbs12 (a * b)), (gp, 63, limbs (a * b % 2 ^ (64 * min j 6))), (gb, 63, limbs b), (ga, 63, limbs a)]) (fun _ i _ => 12 - (intOf i).toNat)
      case atStart =>
        refine ⟨0, by omega, rfl, by rw [over_low (a * b) 0 (by decide)], ?_⟩
        rw [Nat.zero_min, Nat.mul_zero, Nat.pow_zero, Nat.mod_one]; exact H
      case round =>
        clear H
        obtain ⟨j, hj, rfl, rfl, H⟩ := hrel
        by_cases hjt : j < 12
        · have iz := run_index_12 (a * b) j hjt
          by_cases h6 : j < 6
          · have eo := over_low (a * b) (j + 1) (by omega)
            have eo0 := over_low (a * b) j (by omega)
            rw [Nat.min_eq_left (by omega : j ≤ 6)] at H
            rw [eo0]
            clear eo0
            go_wp2_with (first
    | ((with_reducible show wpList _ _ _ (⟨_, .store 25 _ _, _, _, _, _⟩ :: _) _ _); refine H.xt ?_ (hv := set_low _ _ h6); (intro w H; simp only [Act.put]))
    | ((with_reducible show wpList _ _ _ (⟨_, .box _ _, _, _, _, _⟩ :: _) _ _); refine H.xb ?_; (intro g w H; simp only [Act.put, q1_, q2_, q3_]))
    | ((with_reducible show wpList _ _ _ (⟨_, .alloc _, _, _, _, _⟩ :: _) _ _); refine H.xa ?_; (intro g w H; simp only [Act.put, q1_, q2_, q3_]))
    | ((with_reducible show wpList _ _ _ (⟨_, .load _ _, _, _, _, _⟩ :: _) _ _); (first | refine H.xl ?_ | refine H.xm ?_); simp only [Act.put, q1_, q2_, q3_])
    | ((with_reducible show wpList _ _ _ (⟨_, .store _ _ _, _, _, _, _⟩ :: _) _ _); (first | refine H.xs ?_ | refine H.xt ?_); (intro w H; simp only [Act.put]))
    )
            all_goals
              go_roundw
              case rel => exact ⟨j + 1, by omega, by go_num, by rw [eo], by rw [Nat.min_eq_left (by omega : j + 1 ≤ 6)]; exact H⟩
              case measure => simp [intOf]; omega
          · have os := Lib.hid (over_step (a * b) j (by omega))
            rw [Nat.min_eq_right (by omega : 6 ≤ j)] at H
            by_cases hz : limbN (a * b) j = 0
            · have z : limb (a * b) j = 0 := by unfold limb; rw [hz]; rfl
              rw [z] at iz
              have HZ := Lib.hid hz
              clear z hz
              go_wp2_with (first
    | ((with_reducible show wpList _ _ _ (⟨some 2, .box _ _, _, _, _, _⟩ :: _) _ _); refine H.xb ?_; (intro ga w H; simp only [Act.put, q1_, q2_, q3_]))
    | ((with_reducible show wpList _ _ _ (⟨some 3, .box _ _, _, _, _, _⟩ :: _) _ _); refine H.xb ?_; (intro gb w H; simp only [Act.put, q1_, q2_, q3_]))
    | ((with_reducible show wpList _ _ _ (⟨some 4, .alloc 63, _, _, _, _⟩ :: _) _ _); refine H.xa ?_; (intro gp w H; simp only [Act.put, q1_, q2_, q3_]))
    | ((with_reducible show wpList _ _ _ (⟨some 6, .alloc 184, _, _, _, _⟩ :: _) _ _); refine H.xa ?_; (intro gv w H; simp only [Act.put, q1_, q2_, q3_]))
    | ((with_reducible show wpList _ _ _ (⟨_, .box _ _, _, _, _, _⟩ :: _) _ _); refine H.xb ?_; (intro g w H; simp only [Act.put, q1_, q2_, q3_]))
    | ((with_reducible show wpList _ _ _ (⟨_, .alloc _, _, _, _, _⟩ :: _) _ _); refine H.xa ?_; (intro g w H; simp only [Act.put, q1_, q2_, q3_]))
    | ((with_reducible show wpList _ _ _ (⟨_, .load _ _, _, _, _, _⟩ :: _) _ _); (first | refine H.xl ?_ | refine H.xm ?_); simp only [Act.put, q1_, q2_, q3_])
    | ((with_reducible show wpList _ _ _ (⟨_, .store _ _ _, _, _, _, _⟩ :: _) _ _); (first | refine H.xs ?_ | refine H.xt ?_); (intro w H; simp only [Act.put]))
    )
              all_goals
                go_roundw
                case rel => exact ⟨j + 1, by omega, by go_num, by rw [os.out, decide_eq_true HZ.out]; simp, by rw [Nat.min_eq_right (by omega : 6 ≤ j + 1)]; exact H⟩
                case measure => simp [intOf]; omega
            · have z : (limb (a * b) j != 0) = true := by unfold limb; simpa using hz
              have HZ := Lib.hid hz
              clear hz
              go_wp2_with (first
    | ((with_reducible show wpList _ _ _ (⟨some 2, .box _ _, _, _, _, _⟩ :: _) _ _); refine H.xb ?_; (intro ga w H; simp only [Act.put, q1_, q2_, q3_]))
    | ((with_reducible show wpList _ _ _ (⟨some 3, .box _ _, _, _, _, _⟩ :: _) _ _); refine H.xb ?_; (intro gb w H; simp only [Act.put, q1_, q2_, q3_]))
    | ((with_reducible show wpList _ _ _ (⟨some 4, .alloc 63, _, _, _, _⟩ :: _) _ _); refine H.xa ?_; (intro gp w H; simp only [Act.put, q1_, q2_, q3_]))
    | ((with_reducible show wpList _ _ _ (⟨some 6, .alloc 184, _, _, _, _⟩ :: _) _ _); refine H.xa ?_; (intro gv w H; simp only [Act.put, q1_, q2_, q3_]))
    | ((with_reducible show wpList _ _ _ (⟨_, .box _ _, _, _, _, _⟩ :: _) _ _); refine H.xb ?_; (intro g w H; simp only [Act.put, q1_, q2_, q3_]))
    | ((with_reducible show wpList _ _ _ (⟨_, .alloc _, _, _, _, _⟩ :: _) _ _); refine H.xa ?_; (intro g w H; simp only [Act.put, q1_, q2_, q3_]))
    | ((with_reducible show wpList _ _ _ (⟨_, .load _ _, _, _, _, _⟩ :: _) _ _); (first | refine H.xl ?_ | refine H.xm ?_); simp only [Act.put, q1_, q2_, q3_])
    | ((with_reducible show wpList _ _ _ (⟨_, .store _ _ _, _, _, _, _⟩ :: _) _ _); (first | refine H.xs ?_ | refine H.xt ?_); (intro w H; simp only [Act.put]))
    )
              all_goals
                go_roundw
                case rel => exact ⟨j + 1, by omega, by go_num, by rw [os.out, decide_eq_false HZ.out]; simp, by rw [Nat.min_eq_right (by omega : 6 ≤ j + 1)]; exact H⟩
                case measure => simp [intOf]; omega
        · have hj12 : j = 12 := by omega
          have E := Lib.hid (prod_all a b j hj12 HA.out HB.out)
          rw [Nat.min_eq_right (by omega : 6 ≤ j), limbs_mod6] at H
          rw [E.out]
          subst hj12
          clear E
          go_wp2_with (first
    | ((with_reducible show wpList _ _ _ (⟨_, .box _ _, _, _, _, _⟩ :: _) _ _); refine H.xb ?_; (intro g w H; simp only [Act.put, q1_, q2_, q3_]))
    | ((with_reducible show wpList _ _ _ (⟨_, .alloc _, _, _, _, _⟩ :: _) _ _); refine H.xa ?_; (intro g w H; simp only [Act.put, q1_, q2_, q3_]))
    | ((with_reducible show wpList _ _ _ (⟨_, .load _ _, _, _, _, _⟩ :: _) _ _); (first | refine H.xl ?_ | refine H.xm ?_); simp only [Act.put, q1_, q2_, q3_])
    | ((with_reducible show wpList _ _ _ (⟨_, .store _ _ _, _, _, _, _⟩ :: _) _ _); (first | refine H.xs ?_ | refine H.xt ?_); (intro w H; simp only [Act.put]))
    )
          refine bodyPost_ret (results_ct rfl rfl (H.res rW v3_ (ext_limbs _) (by rfl))) rfl ⟨?_, H.below⟩
          rfl
end Go.Proofs.YtecdpjhifmlahaaGreatDoor
