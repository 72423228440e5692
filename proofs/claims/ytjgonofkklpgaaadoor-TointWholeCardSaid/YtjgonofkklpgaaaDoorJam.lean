/- The contracts of the shifts in plain numbers, and of the jam package. -/
import Derived.Test.YtjgonofkklpgaaaDoorWmask
import Derived.Test.YtjgonofkklpgaaaDoorWand
import Derived.BigQuiet
import Derived.Deep.QuietTactic
namespace Go.Proofs.YtjgonofkklpgaaaDoor
open Go.RowKit

theorem pow_mono2 (b c : Nat) (h : b ≤ c) : 2 ^ b ≤ 2 ^ c := Nat.pow_le_pow_right (by decide) h
theorem pow_split (b d T : Nat) (h : T = 2 ^ b) : 2 ^ (b + d) = T * 2 ^ d := by rw [h, Nat.pow_add]
theorem top_of_pow (T b c : Nat) (h : T = 2 ^ b) (hc : b ≤ c) : T ≤ 2 ^ c := by rw [h]; exact pow_mono2 b c hc
theorem top6_le (c : Nat) (hc : 384 ≤ c) : top6 ≤ 2 ^ c := top_of_pow top6 (64 * 6) c top6.eq_1 hc
theorem mod_pow_big (a c : Nat) (h : a < top6) (hc : 384 ≤ c) : a % 2 ^ c = a := Nat.mod_eq_of_lt (Nat.lt_of_lt_of_le h (top6_le c hc))
theorem div_pow_big (a c : Nat) (h : a < top6) (hc : 384 ≤ c) : a / 2 ^ c = 0 := Nat.div_eq_of_lt (Nat.lt_of_lt_of_le h (top6_le c hc))
theorem mul_pow_big (a c : Nat) (hc : 384 ≤ c) : a * 2 ^ c % top6 = 0 := by
  obtain ⟨d, rfl⟩ : ∃ d, c = 64 * 6 + d := ⟨c - 64 * 6, by omega⟩
  rw [pow_split (64 * 6) d top6 top6.eq_1, Nat.mul_left_comm, Nat.mul_mod_right]
theorem mul_pow_big2 (a c : Nat) (hc : 384 ≤ c) : decide (top6 ≤ a * 2 ^ c) = !decide (a = 0) := by
  by_cases h0 : a = 0
  · subst h0
    have : ¬ top6 ≤ 0 := Nat.not_le.2 zero_top
    simp [this]
  · rw [decide_eq_false h0, decide_eq_true (Nat.le_trans (top6_le c hc) (Nat.le_mul_of_pos_left _ (Nat.pos_of_ne_zero h0)))]
    rfl
theorem clip_cases (x : Int) : clip x = x.toNat ∨ 384 ≤ clip x ∧ 384 ≤ x.toNat := by unfold clip; omega
theorem lostR_iff (a c : Nat) (h : a < top6) : lostR a c = !decide (a % 2 ^ c = 0) := by
  unfold lostR
  by_cases h0 : a = 0
  · subst h0; simp
  · obtain ⟨m, e, hl⟩ := lowN_spec a h h0
    generalize lowN a = l at *
    rw [decide_eq_false h0]
    by_cases hc : l < c
    · have : ¬ a % 2 ^ c = 0 := by
        intro hm
        have hd : 2 ^ c * (a / 2 ^ c) = a := by have := Nat.div_add_mod a (2 ^ c); omega
        have e2 : 2 ^ l * (2 * (2 ^ (c - l - 1) * (a / 2 ^ c))) = 2 ^ l * (2 * m + 1) := by
          rw [← e, ← Nat.mul_assoc 2, ← Nat.mul_assoc]
          have : 2 ^ l * (2 * 2 ^ (c - l - 1)) = 2 ^ c := by
            rw [show (2 : Nat) * 2 ^ (c - l - 1) = 2 ^ (c - l - 1 + 1) by rw [Nat.pow_succ, Nat.mul_comm], ← Nat.pow_add]
            congr 1; omega
          rw [this, hd]
        have := Nat.eq_of_mul_eq_mul_left (Nat.two_pow_pos l) e2
        omega
      rw [decide_eq_true hc, decide_eq_false this]; rfl
    · have : a % 2 ^ c = 0 := by
        rw [e, show l = c + (l - c) by omega, Nat.pow_add, Nat.mul_assoc, Nat.mul_mod_right]
      rw [decide_eq_false hc, decide_eq_true this]; rfl
theorem clip_min (x : Int) : clip x = min x.toNat 384 := by unfold clip; omega
theorem div_clip (a : Nat) (x : Int) (h : a < top6) : a / 2 ^ clip x = a / 2 ^ x.toNat := by
  rcases clip_cases x with e | ⟨e1, e2⟩
  · rw [e]
  · rw [div_pow_big a _ h e1, div_pow_big a _ h e2]
theorem lostR_clip (a : Nat) (x : Int) (h : a < top6) : lostR a (clip x) = !decide (a % 2 ^ x.toNat = 0) := by
  rw [lostR_iff a _ h]
  rcases clip_cases x with e | ⟨e1, e2⟩
  · rw [e]
  · rw [mod_pow_big a _ h e1, mod_pow_big a _ h e2]
theorem wideRight_n (a : Nat) (x : Int) (w : World) (ha : a < top6) (hT : Tab w) :
    Calls Tryd.prog 121 #[W a, .int .i64 x] w fun e w' => e = .returned (.tuple #[W (a / 2 ^ x.toNat), .bool (!decide (a % 2 ^ x.toNat = 0))]) ∧ Below w.heap.size w w' := by
  have := wideRight_any a x w ha hT
  rw [lostR_clip a x ha, div_clip a x ha] at this
  exact this
theorem limbs_modeq (a b : Nat) (h : a % top6 = b % top6) : limbs a = limbs b := by rw [← limbs_mod a, ← limbs_mod b, h]
theorem limbs_clip (a : Nat) (x : Int) : limbs (a * 2 ^ clip x) = limbs (a * 2 ^ x.toNat) := by
  rcases clip_cases x with e | ⟨e1, e2⟩
  · rw [e]
  · exact limbs_modeq _ _ (by rw [mul_pow_big a _ e1, mul_pow_big a _ e2])
theorem lostL_pow (a c l b T : Nat) (hT : T = 2 ^ b) (h1 : 2 ^ (l - 1) ≤ a) (h2 : a < 2 ^ l) (h3 : 1 ≤ l) : b < l + c ↔ T ≤ a * 2 ^ c := by
  subst hT
  constructor
  · intro h
    refine Nat.le_trans ?_ (Nat.mul_le_mul_right (2 ^ c) h1)
    rw [← Nat.pow_add]
    exact Nat.pow_le_pow_right (by decide) (by omega)
  · intro h
    have : a * 2 ^ c < 2 ^ (l + c) := by rw [Nat.pow_add]; exact Nat.mul_lt_mul_of_pos_right h2 (Nat.two_pow_pos c)
    exact (Nat.pow_lt_pow_iff_right (by decide)).1 (Nat.lt_of_le_of_lt h this)
theorem lostL_iff (a c : Nat) : lostL a c = decide (top6 ≤ a * 2 ^ c) := by
  unfold lostL
  by_cases h0 : a = 0
  · subst h0
    have : ¬ top6 ≤ 0 := Nat.not_le.2 zero_top
    simp [this]
  · rw [decide_eq_false h0]
    simp only [Bool.not_false, Bool.and_true]
    rw [Bool.eq_iff_iff, decide_eq_true_iff, decide_eq_true_iff]
    exact lostL_pow a c _ (64 * 6) top6 top6.eq_1 (lenN_ge a h0) (lenN_lt a) (lenN_pos a h0)
theorem lostL_clip (a : Nat) (x : Int) : lostL a (clip x) = decide (top6 ≤ a * 2 ^ x.toNat) := by
  rw [lostL_iff]
  rcases clip_cases x with e | ⟨e1, e2⟩
  · rw [e]
  · rw [mul_pow_big2 a _ e1, mul_pow_big2 a _ e2]
theorem wideLeft_n (a : Nat) (x : Int) (w : World) (ha : a < top6) :
    Calls Tryd.prog 57 #[W a, .int .i64 x] w fun e w' => e = .returned (.tuple #[W (a * 2 ^ x.toNat), .bool (decide (top6 ≤ a * 2 ^ x.toNat))]) ∧ Below w.heap.size w w' := by
  have := wideLeft_any a x w ha
  rw [lostL_clip a x] at this
  unfold W at this
  rw [limbs_clip] at this
  exact this
theorem ones_clip (x : Int) (h : x ≤ 384) : ones (clip x) = ones x.toNat := by
  rw [clip_min, Nat.min_eq_left (by omega)]
theorem and_ones (a n : Nat) : a &&& ones n = a % 2 ^ n := Nat.and_two_pow_sub_one_eq_mod a n
theorem wideMask_n (x : Int) (w : World) (hx : x ≤ 384) :
    Calls Tryd.prog 123 #[.int .i64 x] w fun e w' => e = .returned (W (ones x.toNat)) ∧ Below w.heap.size w w' := by
  have := wideMask_any x w
  rw [ones_clip x hx] at this
  exact this
theorem wideCut_n (a n : Nat) (w : World) :
    Calls Tryd.prog 122 #[W a, W (ones n)] w fun e w' => e = .returned (W (a % 2 ^ n)) ∧ Below w.heap.size w w' := by
  have := wideAnd_any a (ones n) w
  rw [and_ones] at this
  exact this
end Go.Proofs.YtjgonofkklpgaaaDoor
