/- Rounding on plain numbers: what is delivered of a rough number; it hangs on the value alone. -/
import Derived.Test.YtjgonofkklpgaaaDoorPln
namespace Go.Proofs.YtjgonofkklpgaaaDoor

theorem two_pos (n : Nat) : 0 < 2 ^ n := Nat.two_pow_pos n
/-- The multiple of 2^at that is taken, and whether it is the number. -/
def gridN (m : Nat) (neg : Bool) (sig : Nat) (exp : Int) (more : Bool) (at_ : Int) : Nat × Bool :=
  if at_ ≤ exp then (sig * 2 ^ (exp - at_).toNat, !more)
  else
    (sig / 2 ^ (at_ - exp).toNat + cond (upB m neg (decide (sig / 2 ^ (at_ - exp).toNat % 2 = 1)) (cond (more && decide (halfN sig (at_ - exp).toNat = 0)) 1 (halfN sig (at_ - exp).toNat)) (decide (sig % 2 ^ (at_ - exp).toNat = 0) && !more)) 1 0,
      decide (sig % 2 ^ (at_ - exp).toNat = 0) && !more)
def signN (f : Nat) (neg : Bool) : Nat := cond neg (2 ^ (wF f - 1)) 0
def zeroN (f : Nat) (neg : Bool) : Nat := cond (decide (f < 4)) (signN f neg) 0
def infN (f : Nat) (neg : Bool) : Nat := cond (decide (f < 4)) ((2 * eF f + 1) * 2 ^ (pF f - 1) + signN f neg) 0
def nanN (f : Nat) : Nat := cond (decide (f < 4)) ((4 * eF f + 3) * 2 ^ (pF f - 2)) 0
def greatN (f : Nat) (neg : Bool) : Nat := cond (decide (f < 4)) ((2 * eF f + 1) * 2 ^ (pF f - 1) - 1 + signN f neg) 0
def oneN (f : Nat) (neg : Bool) : Nat := cond (decide (f < 4)) (eF f * 2 ^ (pF f - 1) + signN f neg) 0
def overB (m : Nat) (neg : Bool) : Bool := decide (m = 1) || (decide (m = 2) && !neg) || (decide (m = 3) && neg)
def overN (f m : Nat) (neg : Bool) : Nat := cond (overB m neg) (greatN f neg) (infN f neg)
def atN (f : Nat) (top : Int) : Int := max top (eminI f) - pF f + 1
def tinyB (f m : Nat) (neg : Bool) (sig : Nat) (exp : Int) (more : Bool) (top : Int) : Bool :=
  if top = eminI f - 1 then decide (lenN (gridN m neg sig exp more (top - pF f + 1)).1 ≤ pF f) else decide (top < eminI f)
def encN (f : Nat) (neg : Bool) (c : Nat) (q : Int) : Nat := (q - eminI f + pF f - 1).toNat * 2 ^ (pF f - 1) + c + signN f neg
/-- What is delivered of a number that is not 0: the encoding and the flags. -/
def packB (f m : Nat) (neg : Bool) (sig : Nat) (exp : Int) (more : Bool) : Nat × Nat :=
  if (eF f : Int) < lenN sig - 1 + exp then (overN f m neg, 5)
  else if (eF f : Int) < lenN (gridN m neg sig exp more (atN f (lenN sig - 1 + exp))).1 - 1 + atN f (lenN sig - 1 + exp) then (overN f m neg, 5)
  else (encN f neg (gridN m neg sig exp more (atN f (lenN sig - 1 + exp))).1 (atN f (lenN sig - 1 + exp)),
    cond (gridN m neg sig exp more (atN f (lenN sig - 1 + exp))).2 0 (cond (tinyB f m neg sig exp more (lenN sig - 1 + exp)) 3 1))
def packOk (f m : Nat) (sig : Nat) (exp : Int) (more : Bool) : Bool := decide (f < 4) && decide (m < 5) && decide (-1048576 ≤ exp) && decide (exp ≤ 1048576) && !(more && decide (lenN sig < pF f + 2))
def packN (f m : Nat) (neg : Bool) (sig : Nat) (exp : Int) (more : Bool) : Nat × Nat × Int :=
  if packOk f m sig exp more = true then (if sig = 0 then (zeroN f neg, 0, 0) else ((packB f m neg sig exp more).1, (packB f m neg sig exp more).2, 0)) else (0, 0, 2)

/-! The half, by what is cut off. -/
theorem bit_iff (a n : Nat) : a.testBit n = true ↔ 2 ^ n ≤ a % 2 ^ (n + 1) := by
  rw [Nat.testBit_eq_decide_div_mod_eq, decide_eq_true_iff, Nat.pow_succ, Nat.mod_mul]
  have h := Nat.mod_lt a (two_pos n)
  have : a / 2 ^ n % 2 = 0 ∨ a / 2 ^ n % 2 = 1 := by omega
  rcases this with e | e
  · rw [e, Nat.mul_zero]; omega
  · rw [e, Nat.mul_one]; omega
theorem mod_split (a n : Nat) : a % 2 ^ (n + 1) = a % 2 ^ n + 2 ^ n * (a / 2 ^ n % 2) := by rw [Nat.pow_succ, Nat.mod_mul]
/-- -1, 0, 1: below half, half, above. -/
theorem halfN_pos (a n : Nat) : halfN a (n + 1) = if a % 2 ^ (n + 1) < 2 ^ n then -1 else if a % 2 ^ (n + 1) = 2 ^ n then 0 else 1 := by
  unfold halfN
  rw [if_neg (by omega), Nat.add_sub_cancel]
  have hs := mod_split a n
  have hl := Nat.mod_lt a (two_pos n)
  by_cases h : a.testBit n = true
  · have hb := (bit_iff a n).1 h
    rw [if_pos h]
    have : a / 2 ^ n % 2 = 0 ∨ a / 2 ^ n % 2 = 1 := by omega
    rcases this with e | e
    · rw [e, Nat.mul_zero] at hs; omega
    · rw [e, Nat.mul_one] at hs
      rw [if_neg (by omega : ¬ a % 2 ^ (n + 1) < 2 ^ n)]
      by_cases hz : a % 2 ^ n = 0
      · rw [if_pos hz, if_pos (by omega)]
      · rw [if_neg hz, if_neg (by omega)]
  · have hb : ¬ 2 ^ n ≤ a % 2 ^ (n + 1) := fun x => h ((bit_iff a n).2 x)
    rw [if_neg h, if_pos (by omega)]

/-- A number in finer steps: the same number, and what is below. -/
structure Finer (s : Nat) (e : Int) (mo : Bool) (s' : Nat) (e' : Int) (mo' : Bool) : Prop where
  le : e' ≤ e
  sig : s = s' / 2 ^ (e - e').toNat
  more : mo = (mo' || !decide (s' % 2 ^ (e - e').toNat = 0))

theorem div_more (s' d n : Nat) : s' / 2 ^ d / 2 ^ n = s' / 2 ^ (d + n) := by rw [Nat.div_div_eq_div_mul, ← Nat.pow_add]
theorem mod_more (s' d n : Nat) : s' % 2 ^ (d + n) = s' % 2 ^ d + 2 ^ d * (s' / 2 ^ d % 2 ^ n) := by rw [Nat.pow_add, Nat.mod_mul]
theorem half_more (s' d n : Nat) (hn : 1 ≤ n) (mo' : Bool) :
    (cond ((mo' || !decide (s' % 2 ^ d = 0)) && decide (halfN (s' / 2 ^ d) n = 0)) 1 (halfN (s' / 2 ^ d) n) : Int) = cond (mo' && decide (halfN s' (d + n) = 0)) 1 (halfN s' (d + n)) := by
  obtain ⟨k, rfl⟩ : ∃ k, n = k + 1 := ⟨n - 1, by omega⟩
  rw [← Nat.add_assoc, halfN_pos, halfN_pos]
  have hm := mod_more s' d (k + 1)
  rw [← Nat.add_assoc] at hm
  have hl := Nat.mod_lt s' (two_pos d)
  have hp : 2 ^ (d + k) = 2 ^ d * 2 ^ k := Nat.pow_add _ _ _
  generalize s' / 2 ^ d % 2 ^ (k + 1) = x at *
  generalize s' % 2 ^ (d + k + 1) = y at *
  generalize s' % 2 ^ d = r at *
  rw [hp]
  clear hp
  have h1 : x < 2 ^ k → y < 2 ^ d * 2 ^ k := fun h => by
    have : 2 ^ d * (x + 1) ≤ 2 ^ d * 2 ^ k := Nat.mul_le_mul_left _ h
    rw [Nat.mul_add] at this; omega
  have h2 : 2 ^ k < x → 2 ^ d * 2 ^ k < y := fun h => by
    have : 2 ^ d * (2 ^ k + 1) ≤ 2 ^ d * x := Nat.mul_le_mul_left _ h
    rw [Nat.mul_add] at this; omega
  rcases Nat.lt_trichotomy x (2 ^ k) with h | h | h
  · rw [if_pos h, if_pos (h1 h)]; cases mo' <;> simp
  · have hy : y = r + 2 ^ d * 2 ^ k := by rw [hm, h]
    rw [if_neg (by omega), if_pos h, if_neg (by omega)]
    by_cases hr : r = 0
    · rw [if_pos (by omega)]; simp [hr]
    · rw [if_neg (by omega)]; simp [hr]
  · have := h2 h
    rw [if_neg (by omega), if_neg (by omega), if_neg (by omega), if_neg (by omega)]; cases mo' <;> simp
theorem exact_more (s' d n : Nat) (mo' : Bool) :
    (decide (s' / 2 ^ d % 2 ^ n = 0) && !(mo' || !decide (s' % 2 ^ d = 0))) = (decide (s' % 2 ^ (d + n) = 0) && !mo') := by
  have hm := mod_more s' d n
  have hd := two_pos d
  rw [Bool.eq_iff_iff]
  simp only [Bool.and_eq_true, decide_eq_true_iff, Bool.not_eq_true', Bool.or_eq_false_iff, Bool.not_eq_false']
  rw [hm]
  constructor
  · rintro ⟨h1, h2, h3⟩; rw [h1, h3]; exact ⟨by simp, h2⟩
  · rintro ⟨h1, h2⟩
    have h4 : s' % 2 ^ d = 0 := by omega
    have h5 : 2 ^ d * (s' / 2 ^ d % 2 ^ n) = 0 := by omega
    exact ⟨by rcases Nat.mul_eq_zero.1 h5 with h | h <;> omega, h2, h4⟩
theorem grid_finer {s : Nat} {e : Int} {mo : Bool} {s' : Nat} {e' : Int} {mo' : Bool} (h : Finer s e mo s' e' mo') (m : Nat) (neg : Bool) (at_ : Int) (ha : e < at_) :
    gridN m neg s e mo at_ = gridN m neg s' e' mo' at_ := by
  obtain ⟨hle, rfl, rfl⟩ := h
  obtain ⟨d, hd⟩ : ∃ d, (e - e').toNat = d := ⟨_, rfl⟩
  obtain ⟨n, hn⟩ : ∃ n, (at_ - e).toNat = n := ⟨_, rfl⟩
  have hn' : (at_ - e').toNat = d + n := by omega
  unfold gridN
  rw [if_neg (by omega), if_neg (by omega), hd, hn, hn', half_more s' d n (by omega), exact_more, div_more]
/-- Nothing below: exactly the same number; whatever the grid. -/
theorem grid_same {s : Nat} {e : Int} {s' : Nat} {e' : Int} (h : Finer s e false s' e' false) (m : Nat) (neg : Bool) (at_ : Int) :
    gridN m neg s e false at_ = gridN m neg s' e' false at_ := by
  by_cases ha : e < at_
  · exact grid_finer h m neg at_ ha
  · obtain ⟨hle, hs, hm⟩ := h
    obtain ⟨d, hd⟩ : ∃ d, (e - e').toNat = d := ⟨_, rfl⟩
    rw [hd] at hs hm
    have hz : s' % 2 ^ d = 0 := by simpa using hm
    have hs' : s' = s * 2 ^ d := by
      have := Nat.div_add_mod s' (2 ^ d)
      rw [hz, ← hs, Nat.mul_comm] at this; omega
    unfold gridN
    rw [if_pos (by omega)]
    by_cases h2 : at_ ≤ e'
    · rw [if_pos h2, hs', Nat.mul_assoc, ← Nat.pow_add, show d + (e' - at_).toNat = (e - at_).toNat by omega]
    · rw [if_neg h2]
      have e1 : 2 ^ d = 2 ^ (at_ - e').toNat * 2 ^ (e - at_).toNat := by rw [← Nat.pow_add, show (at_ - e').toNat + (e - at_).toNat = d by omega]
      have z1 : s' % 2 ^ (at_ - e').toNat = 0 := by rw [hs', e1, Nat.mul_left_comm]; exact Nat.mul_mod_right _ _
      have z2 : s' / 2 ^ (at_ - e').toNat = s * 2 ^ (e - at_).toNat := by rw [hs', e1, Nat.mul_left_comm]; exact Nat.mul_div_cancel_left _ (two_pos _)
      rw [z1, z2]; simp [upB]
theorem lenN_div (a d : Nat) (h : a / 2 ^ d ≠ 0) : lenN (a / 2 ^ d) + d = lenN a := by
  have h1 := lenN_ge _ h
  have h2 := lenN_lt (a / 2 ^ d)
  have h3 := lenN_pos _ h
  symm
  apply lenN_unique
  · rw [show lenN (a / 2 ^ d) + d - 1 = (lenN (a / 2 ^ d) - 1) + d by omega, Nat.pow_add]
    exact (Nat.le_div_iff_mul_le (two_pos d)).1 h1
  · rw [Nat.pow_add]
    exact (Nat.div_lt_iff_lt_mul (two_pos d)).1 h2
  · omega
/-- What is delivered hangs on the number alone. -/
theorem pack_finer {s : Nat} {e : Int} {mo : Bool} {s' : Nat} {e' : Int} {mo' : Bool} (h : Finer s e mo s' e' mo') (f m : Nat) (neg : Bool) (h0 : s ≠ 0) (hl : mo = true → pF f + 2 ≤ lenN s) :
    packB f m neg s e mo = packB f m neg s' e' mo' := by
  have ht : (lenN s' : Int) - 1 + e' = lenN s - 1 + e := by
    have := lenN_div s' (e - e').toNat (by rw [← h.sig]; exact h0)
    rw [← h.sig] at this
    have := h.le
    omega
  have hg : ∀ at_ : Int, (lenN s : Int) - 1 + e - pF f + 1 ≤ at_ → gridN m neg s e mo at_ = gridN m neg s' e' mo' at_ := by
    intro at_ hat
    cases hmo : mo with
    | true =>
      rw [hmo] at h
      have := hl hmo
      exact grid_finer h m neg at_ (by omega)
    | false =>
      rw [hmo] at h
      have h3 := h.more
      have : mo' = false := by cases mo' with | false => rfl | true => exact absurd h3 (by simp)
      rw [this] at h ⊢
      exact grid_same h m neg at_
  unfold packB tinyB
  rw [ht, hg _ (by unfold atN; omega), hg _ (by omega)]
end Go.Proofs.YtjgonofkklpgaaaDoor
