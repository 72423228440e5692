/- Numbers of 384 bits as six words: plain arithmetic; blocks of memory, whole. -/
import Derived.Test.YtjgonofkklpgaaaDoorWord
import Derived.Test.YtjgonofkklpgaaaDoorMem
namespace Go.Proofs.YtjgonofkklpgaaaDoor
open Go.RowKit

/-- Word i of a number. -/
def limbN (a i : Nat) : Nat := a / 2 ^ (64 * i) % 18446744073709551616
def limb (a i : Nat) : Int := (limbN a i : Nat)
theorem limbN_lt (a i : Nat) : limbN a i < 18446744073709551616 := Nat.mod_lt _ (by decide)
theorem limb_w (a i : Nat) : IsW (limb a i) := by
  have := limbN_lt a i
  unfold limb IsW
  omega
/-- The six words, the lowest first. -/
def limbs (a : Nat) : Array Value := #[.int .u64 (limb a 0), .int .u64 (limb a 1), .int .u64 (limb a 2), .int .u64 (limb a 3), .int .u64 (limb a 4), .int .u64 (limb a 5)]
/-- A number of 384 bits, as a value. -/
abbrev W (a : Nat) : Value := .agg (limbs a)
theorem limbs_get (a i : Nat) (h : i < 6) : (limbs a)[i]? = some (.int .u64 (limb a i)) := by
  have : i = 0 ∨ i = 1 ∨ i = 2 ∨ i = 3 ∨ i = 4 ∨ i = 5 := by omega
  rcases this with rfl | rfl | rfl | rfl | rfl | rfl <;> rfl
@[go_sem] theorem limbs_size (a : Nat) : (limbs a).size = 6 := rfl
@[go_sem] theorem limbs_g0 (a : Nat) (h : 0 < (limbs a).size) : (limbs a)[0] = .int .u64 (limb a 0) := rfl
@[go_sem] theorem limbs_g1 (a : Nat) (h : 1 < (limbs a).size) : (limbs a)[1] = .int .u64 (limb a 1) := rfl
@[go_sem] theorem limbs_g2 (a : Nat) (h : 2 < (limbs a).size) : (limbs a)[2] = .int .u64 (limb a 2) := rfl
@[go_sem] theorem limbs_g3 (a : Nat) (h : 3 < (limbs a).size) : (limbs a)[3] = .int .u64 (limb a 3) := rfl
@[go_sem] theorem limbs_g4 (a : Nat) (h : 4 < (limbs a).size) : (limbs a)[4] = .int .u64 (limb a 4) := rfl
@[go_sem] theorem limbs_g5 (a : Nat) (h : 5 < (limbs a).size) : (limbs a)[5] = .int .u64 (limb a 5) := rfl
@[go_sem] theorem limbs_o0 (a : Nat) : (limbs a)[0]? = some (.int .u64 (limb a 0)) := rfl
@[go_sem] theorem limbs_o1 (a : Nat) : (limbs a)[1]? = some (.int .u64 (limb a 1)) := rfl
@[go_sem] theorem limbs_o2 (a : Nat) : (limbs a)[2]? = some (.int .u64 (limb a 2)) := rfl
@[go_sem] theorem limbs_o3 (a : Nat) : (limbs a)[3]? = some (.int .u64 (limb a 3)) := rfl
@[go_sem] theorem limbs_o4 (a : Nat) : (limbs a)[4]? = some (.int .u64 (limb a 4)) := rfl
@[go_sem] theorem limbs_o5 (a : Nat) : (limbs a)[5]? = some (.int .u64 (limb a 5)) := rfl
theorem limbs_zero : limbs 0 = #[.int .u64 0, .int .u64 0, .int .u64 0, .int .u64 0, .int .u64 0, .int .u64 0] := by
  unfold limbs limb limbN; simp only [Nat.zero_div, Nat.zero_mod]; rfl

theorem B64 : (18446744073709551616 : Nat) = 2 ^ 64 := by decide
theorem pw_succ (k : Nat) : 2 ^ (64 * (k + 1)) = 2 ^ (64 * k) * 18446744073709551616 := by rw [Nat.mul_succ, Nat.pow_add]
theorem pw_pos (k : Nat) : 0 < 2 ^ (64 * k) := Nat.two_pow_pos _

/-- A word put above what is lower than it. -/
theorem limbN_put (s v k i : Nat) (hs : s < 2 ^ (64 * k)) (hv : v < 18446744073709551616) : limbN (s + v * 2 ^ (64 * k)) i = if i = k then v else limbN s i := by
  unfold limbN
  rcases Nat.lt_trichotomy i k with h | h | h
  · rw [if_neg (by omega)]
    have e : 2 ^ (64 * k) = 2 ^ (64 * i) * (18446744073709551616 * 2 ^ (64 * (k - i - 1))) := by
      rw [show 64 * k = 64 * i + (64 + 64 * (k - i - 1)) by omega, Nat.pow_add, Nat.pow_add]
    rw [e, show v * (2 ^ (64 * i) * (18446744073709551616 * 2 ^ (64 * (k - i - 1)))) = 2 ^ (64 * i) * (18446744073709551616 * (v * 2 ^ (64 * (k - i - 1)))) by
      rw [Nat.mul_left_comm, Nat.mul_left_comm v]]
    rw [Nat.add_mul_div_left _ _ (pw_pos i), Nat.add_mul_mod_self_left]
  · subst h
    rw [if_pos rfl, Nat.add_mul_div_right _ _ (pw_pos i), Nat.div_eq_of_lt hs, Nat.zero_add, Nat.mod_eq_of_lt hv]
  · rw [if_neg (by omega)]
    have hle : 2 ^ (64 * k) * 18446744073709551616 ≤ 2 ^ (64 * i) := by
      rw [← pw_succ]; exact Nat.pow_le_pow_right (by decide) (by omega)
    have hlt : s + v * 2 ^ (64 * k) < 2 ^ (64 * i) := by
      have : s + v * 2 ^ (64 * k) < (v + 1) * 2 ^ (64 * k) := by rw [Nat.add_mul]; omega
      have h2 : (v + 1) * 2 ^ (64 * k) ≤ 18446744073709551616 * 2 ^ (64 * k) := Nat.mul_le_mul_right _ (by omega)
      rw [Nat.mul_comm 18446744073709551616] at h2
      omega
    rw [Nat.div_eq_of_lt hlt, Nat.div_eq_of_lt (Nat.lt_of_lt_of_le hs (Nat.pow_le_pow_right (by decide) (by omega)))]

theorem limbs_put (s v k : Nat) (hk : k < 6) (hs : s < 2 ^ (64 * k)) (hv : v < 18446744073709551616) :
    (limbs s).setIfInBounds k (.int .u64 (v : Nat)) = limbs (s + v * 2 ^ (64 * k)) := by
  have e : ∀ i, limb (s + v * 2 ^ (64 * k)) i = if i = k then (v : Int) else limb s i := by
    intro i
    unfold limb
    rw [limbN_put s v k i hs hv]
    split <;> rfl
  unfold limbs
  simp only [e]
  have : k = 0 ∨ k = 1 ∨ k = 2 ∨ k = 3 ∨ k = 4 ∨ k = 5 := by omega
  rcases this with rfl | rfl | rfl | rfl | rfl | rfl <;> simp

/-- The number of six words. -/
theorem limbs_eq (a b : Nat) (h : ∀ i, i < 6 → limbN a i = limbN b i) : limbs a = limbs b := by
  unfold limbs limb
  rw [h 0 (by decide), h 1 (by decide), h 2 (by decide), h 3 (by decide), h 4 (by decide), h 5 (by decide)]
theorem mod_low (a k : Nat) : a % 2 ^ (64 * (k + 1)) = a % 2 ^ (64 * k) + limbN a k * 2 ^ (64 * k) := by
  unfold limbN
  rw [pw_succ, Nat.mod_mul, Nat.mul_comm (2 ^ (64 * k))]
theorem limbN_mod (a i k : Nat) (h : i < k) : limbN (a % 2 ^ (64 * k)) i = limbN a i := by
  unfold limbN
  have e : 2 ^ (64 * k) = 2 ^ (64 * i) * (18446744073709551616 * 2 ^ (64 * (k - i - 1))) := by
    rw [show 64 * k = 64 * i + (64 + 64 * (k - i - 1)) by omega, Nat.pow_add, Nat.pow_add]
  rw [e, Nat.mod_mul_right_div_self, Nat.mod_mul_right_mod]
/-- Numbers of less than 384 bits with the same words are the same. -/
theorem limbs_inj (a b : Nat) (ha : a < top6) (hb : b < top6) (h : ∀ i, i < 6 → limbN a i = limbN b i) : a = b := by
  have key : ∀ k, k ≤ 6 → a % 2 ^ (64 * k) = b % 2 ^ (64 * k) := by
    intro k
    induction k with
    | zero => intro _; simp [Nat.mod_one]
    | succ k ih =>
      intro hk
      rw [mod_low, mod_low, ih (by omega), h k (by omega)]
  have := key 6 (Nat.le_refl _)
  unfold top6 at ha hb
  rw [Nat.mod_eq_of_lt ha, Nat.mod_eq_of_lt hb] at this
  exact this
theorem limbs_mod (a : Nat) : limbs (a % top6) = limbs a := by
  unfold top6
  exact limbs_eq _ _ (fun i hi => limbN_mod a i 6 hi)

/-- The carry into word k of a sum. -/
def cbit (a b k : Nat) : Bool := decide (2 ^ (64 * k) ≤ a % 2 ^ (64 * k) + b % 2 ^ (64 * k))
theorem cbit_zero (a b : Nat) : cbit a b 0 = false := by
  unfold cbit
  rw [decide_eq_false_iff_not]
  have h1 := Nat.mod_lt a (pw_pos 0)
  have h2 := Nat.mod_lt b (pw_pos 0)
  have e : 2 ^ (64 * 0) = 1 := rfl
  omega
theorem sum_div (a b M : Nat) (hM : 0 < M) : (a + b) / M = a / M + b / M + if M ≤ a % M + b % M then 1 else 0 := Nat.add_div hM
theorem sum_step (a b k : Nat) : (a + b) % 2 ^ (64 * (k + 1)) = (a + b) % 2 ^ (64 * k) + (limbN a k + limbN b k + (cbit a b k).toNat) % 18446744073709551616 * 2 ^ (64 * k) := by
  rw [mod_low]
  congr 2
  unfold limbN cbit
  rw [sum_div a b _ (pw_pos k)]
  by_cases h : 2 ^ (64 * k) ≤ a % 2 ^ (64 * k) + b % 2 ^ (64 * k)
  · simp only [h, if_true, decide_true, Bool.toNat_true]; omega
  · simp only [h, if_false, decide_false, Bool.toNat_false]; omega
theorem cbit_step (a b k : Nat) : cbit a b (k + 1) = decide (18446744073709551616 ≤ limbN a k + limbN b k + (cbit a b k).toNat) := by
  unfold cbit
  rw [mod_low, mod_low, pw_succ]
  generalize limbN a k = x
  generalize limbN b k = y
  have h1 := Nat.mod_lt a (pw_pos k)
  have h2 := Nat.mod_lt b (pw_pos k)
  generalize 2 ^ (64 * k) = M at *
  generalize a % M = p at *
  generalize b % M = q at *
  rw [Bool.eq_iff_iff, decide_eq_true_iff, decide_eq_true_iff]
  have e : p + x * M + (q + y * M) = (p + q) + (x + y) * M := by rw [Nat.add_mul]; omega
  rw [e, Nat.mul_comm M]
  by_cases h : M ≤ p + q
  · simp only [h, decide_true, Bool.toNat_true]
    constructor
    · intro hh
      have : 18446744073709551616 * M < (x + y + 2) * M := by rw [Nat.add_mul (x + y)]; omega
      have := Nat.lt_of_mul_lt_mul_right this
      omega
    · intro hh
      have : 18446744073709551616 * M ≤ (x + y + 1) * M := Nat.mul_le_mul_right _ hh
      rw [Nat.add_mul (x + y)] at this
      omega
  · simp only [h, decide_false, Bool.toNat_false]
    constructor
    · intro hh
      have : 18446744073709551616 * M < (x + y + 1) * M := by rw [Nat.add_mul (x + y)]; omega
      have := Nat.lt_of_mul_lt_mul_right this
      omega
    · intro hh
      have : 18446744073709551616 * M ≤ (x + y) * M := Nat.mul_le_mul_right _ (by omega)
      omega
theorem addW_nat (x y : Nat) (c : Bool) : addW (x : Int) (y : Int) c = (((x + y + c.toNat) % 18446744073709551616 : Nat) : Int) := by
  unfold addW; cases c <;> simp
theorem carW_nat (x y : Nat) (c : Bool) : carW (x : Int) (y : Int) c = decide (18446744073709551616 ≤ x + y + c.toNat) := by
  unfold carW; rw [Bool.eq_iff_iff, decide_eq_true_iff, decide_eq_true_iff]; cases c <;> simp <;> omega
end Go.Proofs.YtjgonofkklpgaaaDoor
