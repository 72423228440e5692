/- Part 4 of what is proved: Setb, Pk, Rb, Mem2, Unp, Typ, Mem3, Mem4, Mem5, Mem7, Typ2, Pk2, Shq. -/
import Derived.Outline
import Derived.Test.YtgmhmpflmgfcdaaGreatDoorHf2
import Derived.Test.YtgmhmpflmgfcdaaGreatDoorHf3
set_option linter.unusedSimpArgs false
set_option linter.unusedVariables false
set_option linter.unnecessarySimpa false
set_option maxRecDepth 100000
set_option maxHeartbeats 1600000
namespace Go.Proofs.YtgmhmpflmgfcdaaGreatDoor
open Go.RowKit
theorem limbN_addpow (t i s j : Nat) (ht : t < 2 ^ (64 * i + s)) (hs : s < 64) :
    limbN (t + 2 ^ (64 * i + s)) j = if j = i then limbN t i + 2 ^ s else limbN t j := by
  have hp : 2 ^ (64 * i + s) = 2 ^ s * 2 ^ (64 * i) := by rw [Nat.pow_add, Nat.mul_comm]
  have h64 : 2 ^ s < 18446744073709551616 := by rw [B64]; exact Nat.pow_lt_pow_right (by decide) hs
  rcases Nat.lt_trichotomy j i with h | h | h
  · rw [if_neg (by omega)]
    unfold limbN
    rw [hp, show 64 * i = 64 * j + (64 + 64 * (i - j - 1)) by omega, Nat.pow_add, Nat.pow_add 2 64, Nat.mul_left_comm, Nat.add_mul_div_left _ _ (pw_pos j), ← B64, Nat.mul_left_comm, Nat.add_mul_mod_self_left]
  · subst h
    rw [if_pos rfl]
    unfold limbN
    have hq : t / 2 ^ (64 * j) < 2 ^ s := by rw [Nat.div_lt_iff_lt_mul (pw_pos j), ← hp]; exact ht
    have hs2 : 2 ^ s + 2 ^ s ≤ 18446744073709551616 := by rw [← Nat.two_mul, Nat.mul_comm, ← Nat.pow_succ, B64]; exact Nat.pow_le_pow_right (by decide) hs
    rw [hp, Nat.mul_comm, Nat.add_mul_div_left _ _ (pw_pos j), Nat.mod_eq_of_lt (by omega : t / 2 ^ (64 * j) < _), Nat.mod_eq_of_lt (by omega)]
  · rw [if_neg (by omega)]
    have big : ∀ y, y < 2 ^ (64 * j) → limbN y j = 0 := fun y hy => by unfold limbN; rw [Nat.div_eq_of_lt hy]
    have hle : 2 ^ (64 * i + s) + 2 ^ (64 * i + s) ≤ 2 ^ (64 * j) := by
      rw [← Nat.two_mul, Nat.mul_comm, ← Nat.pow_succ]; exact Nat.pow_le_pow_right (by decide) (by omega)
    rw [big _ (by omega), big _ (by omega)]
theorem bits_or_top (x s : Nat) (hx : x < 2 ^ s) (hs : s < 64) : Go.bits .or .u64 (x : Int) (IntKind.u64.wrap (2 ^ s)) = ((x + 2 ^ s : Nat) : Int) := by
  have h64 : 2 ^ s < 18446744073709551616 := by rw [B64]; exact Nat.pow_lt_pow_right (by decide) hs
  rw [show (2 : Int) ^ s = ((2 ^ s : Nat) : Int) by simp, show IntKind.u64.wrap ((2 ^ s : Nat) : Int) = ((2 ^ s : Nat) : Int) by rw [IntKind.wrap_u64]; omega, u64_or_nat _ _ (by omega) h64]
  congr 1
  have := Nat.two_pow_add_eq_or_of_lt hx 1
  rw [Nat.mul_one] at this
  rw [Nat.or_comm, ← this, Nat.add_comm]
theorem limbs_top (t i s : Nat) (ht : t < 2 ^ (64 * i + s)) (hs : s < 64) (hi : i < 6) :
    (limbs t).setIfInBounds i (.int .u64 (Go.bits .or .u64 (limb t i) (IntKind.u64.wrap (2 ^ s)))) = limbs (t + 2 ^ (64 * i + s)) := by
  have hx : limbN t i < 2 ^ s := by
    unfold limbN
    refine Nat.lt_of_le_of_lt (Nat.mod_le _ _) ?_
    rw [Nat.div_lt_iff_lt_mul (pw_pos i), ← Nat.pow_add, Nat.add_comm]; exact ht
  have e : Go.bits .or .u64 (limb t i) (IntKind.u64.wrap (2 ^ s)) = ((limbN t i + 2 ^ s : Nat) : Int) := bits_or_top _ s hx hs
  rw [e]
  apply Array.ext_getElem?
  intro j
  by_cases hj : j < 6
  · rw [limbs_get _ j hj, Array.getElem?_setIfInBounds]
    unfold limb
    rw [limbN_addpow t i s j ht hs]
    by_cases h : i = j
    · subst h
      rw [if_pos rfl, if_pos (by rw [limbs_size]; exact hi), if_pos rfl]
    · rw [if_neg h, if_neg (by omega)]
      exact limbs_get t j hj
  · rw [Array.getElem?_eq_none (by rw [Array.size_setIfInBounds, limbs_size]; omega), Array.getElem?_eq_none (by rw [limbs_size]; omega)]
theorem two_pos (n : Nat) : 0 < 2 ^ n := Nat.two_pow_pos n
def gridN (m : Nat) (neg : Bool) (sig : Nat) (exp : Int) (more : Bool) (at_ : Int) : Nat × Bool :=
  if at_ ≤ exp then (sig * 2 ^ (exp - at_).toNat, !more)
  else
    (sig / 2 ^ (at_ - exp).toNat + cond (upB m neg (decide (sig / 2 ^ (at_ - exp).toNat % 2 = 1)) (cond (more && decide (halfN sig (at_ - exp).toNat = 0)) 1 (halfN sig (at_ - exp).toNat)) (decide (sig % 2 ^ (at_ - exp).toNat = 0) && !more)) 1 0,
      decide (sig % 2 ^ (at_ - exp).toNat = 0) && !more)
def signN (f : Nat) (neg : Bool) : Nat := cond neg (2 ^ (wF f - 1)) 0
def zeroN (f : Nat) (neg : Bool) : Nat := cond (decide (f < 4)) (signN f neg) 0
def infN (f : Nat) (neg : Bool) : Nat := cond (decide (f < 4)) ((2 * eF f + 1) * 2 ^ (pF f - 1) + signN f neg) 0
def nanN (f : Nat) : Nat := cond (decide (f < 4)) ((4 * eF f + 3) * 2 ^ (pF f - 2)) 0
def greatN (f : Nat) (neg : Bool) : Nat := cond (decide (f < 4)) ((2 * eF f + 1) * 2 ^ (pF f - 1) - 1 + signN f neg) 0
def oneN (f : Nat) (neg : Bool) : Nat := cond (decide (f < 4)) (eF f * 2 ^ (pF f - 1) + signN f neg) 0
def overB (m : Nat) (neg : Bool) : Bool := decide (m = 1) || (decide (m = 2) && !neg) || (decide (m = 3) && neg)
def overN (f m : Nat) (neg : Bool) : Nat := cond (overB m neg) (greatN f neg) (infN f neg)
def atN (f : Nat) (top : Int) : Int := max top (eminI f) - pF f + 1
def tinyB (f m : Nat) (neg : Bool) (sig : Nat) (exp : Int) (more : Bool) (top : Int) : Bool :=
  if top = eminI f - 1 then decide (lenN (gridN m neg sig exp more (top - pF f + 1)).1 ≤ pF f) else decide (top < eminI f)
def encN (f : Nat) (neg : Bool) (c : Nat) (q : Int) : Nat := (q - eminI f + pF f - 1).toNat * 2 ^ (pF f - 1) + c + signN f neg
def packB (f m : Nat) (neg : Bool) (sig : Nat) (exp : Int) (more : Bool) : Nat × Nat :=
  if (eF f : Int) < lenN sig - 1 + exp then (overN f m neg, 5)
  else if (eF f : Int) < lenN (gridN m neg sig exp more (atN f (lenN sig - 1 + exp))).1 - 1 + atN f (lenN sig - 1 + exp) then (overN f m neg, 5)
  else (encN f neg (gridN m neg sig exp more (atN f (lenN sig - 1 + exp))).1 (atN f (lenN sig - 1 + exp)),
    cond (gridN m neg sig exp more (atN f (lenN sig - 1 + exp))).2 0 (cond (tinyB f m neg sig exp more (lenN sig - 1 + exp)) 3 1))
def packOk (f m : Nat) (sig : Nat) (exp : Int) (more : Bool) : Bool := decide (f < 4) && decide (m < 5) && decide (-1048576 ≤ exp) && decide (exp ≤ 1048576) && !(more && decide (lenN sig < pF f + 2))
def packN (f m : Nat) (neg : Bool) (sig : Nat) (exp : Int) (more : Bool) : Nat × Nat × Int :=
  if packOk f m sig exp more = true then (if sig = 0 then (zeroN f neg, 0, 0) else ((packB f m neg sig exp more).1, (packB f m neg sig exp more).2, 0)) else (0, 0, 2)
theorem bit_iff (a n : Nat) : a.testBit n = true ↔ 2 ^ n ≤ a % 2 ^ (n + 1) := by
  rw [Nat.testBit_eq_decide_div_mod_eq, decide_eq_true_iff, Nat.pow_succ, Nat.mod_mul]
  have h := Nat.mod_lt a (two_pos n)
  have : a / 2 ^ n % 2 = 0 ∨ a / 2 ^ n % 2 = 1 := by omega
  rcases this with e | e
  · rw [e, Nat.mul_zero]; omega
  · rw [e, Nat.mul_one]; omega
theorem mod_split (a n : Nat) : a % 2 ^ (n + 1) = a % 2 ^ n + 2 ^ n * (a / 2 ^ n % 2) := by rw [Nat.pow_succ, Nat.mod_mul]
theorem halfN_pos (a n : Nat) : halfN a (n + 1) = if a % 2 ^ (n + 1) < 2 ^ n then -1 else if a % 2 ^ (n + 1) = 2 ^ n then 0 else 1 := by
  unfold halfN
  rw [if_neg (by omega), Nat.add_sub_cancel]
  have hs := mod_split a n
  have hl := Nat.mod_lt a (two_pos n)
  by_cases h : a.testBit n = true
  · have hb := (bit_iff a n).1 h
    rw [if_pos h]
    have : a / 2 ^ n % 2 = 0 ∨ a / 2 ^ n % 2 = 1 := by omega
    rcases this with e | e
    · rw [e, Nat.mul_zero] at hs; omega
    · rw [e, Nat.mul_one] at hs
      rw [if_neg (by omega : ¬ a % 2 ^ (n + 1) < 2 ^ n)]
      by_cases hz : a % 2 ^ n = 0
      · rw [if_pos hz, if_pos (by omega)]
      · rw [if_neg hz, if_neg (by omega)]
  · have hb : ¬ 2 ^ n ≤ a % 2 ^ (n + 1) := fun x => h ((bit_iff a n).2 x)
    rw [if_neg h, if_pos (by omega)]
structure Finer (s : Nat) (e : Int) (mo : Bool) (s' : Nat) (e' : Int) (mo' : Bool) : Prop where
  le : e' ≤ e
  sig : s = s' / 2 ^ (e - e').toNat
  more : mo = (mo' || !decide (s' % 2 ^ (e - e').toNat = 0))
theorem div_more (s' d n : Nat) : s' / 2 ^ d / 2 ^ n = s' / 2 ^ (d + n) := by rw [Nat.div_div_eq_div_mul, ← Nat.pow_add]
theorem mod_more (s' d n : Nat) : s' % 2 ^ (d + n) = s' % 2 ^ d + 2 ^ d * (s' / 2 ^ d % 2 ^ n) := by rw [Nat.pow_add, Nat.mod_mul]
theorem half_more (s' d n : Nat) (hn : 1 ≤ n) (mo' : Bool) :
    (cond ((mo' || !decide (s' % 2 ^ d = 0)) && decide (halfN (s' / 2 ^ d) n = 0)) 1 (halfN (s' / 2 ^ d) n) : Int) = cond (mo' && decide (halfN s' (d + n) = 0)) 1 (halfN s' (d + n)) := by
  obtain ⟨k, rfl⟩ : ∃ k, n = k + 1 := ⟨n - 1, by omega⟩
  rw [← Nat.add_assoc, halfN_pos, halfN_pos]
  have hm := mod_more s' d (k + 1)
  rw [← Nat.add_assoc] at hm
  have hl := Nat.mod_lt s' (two_pos d)
  have hp : 2 ^ (d + k) = 2 ^ d * 2 ^ k := Nat.pow_add _ _ _
  generalize s' / 2 ^ d % 2 ^ (k + 1) = x at *
  generalize s' % 2 ^ (d + k + 1) = y at *
  generalize s' % 2 ^ d = r at *
  rw [hp]
  clear hp
  have h1 : x < 2 ^ k → y < 2 ^ d * 2 ^ k := fun h => by
    have : 2 ^ d * (x + 1) ≤ 2 ^ d * 2 ^ k := Nat.mul_le_mul_left _ h
    rw [Nat.mul_add] at this; omega
  have h2 : 2 ^ k < x → 2 ^ d * 2 ^ k < y := fun h => by
    have : 2 ^ d * (2 ^ k + 1) ≤ 2 ^ d * x := Nat.mul_le_mul_left _ h
    rw [Nat.mul_add] at this; omega
  rcases Nat.lt_trichotomy x (2 ^ k) with h | h | h
  · rw [if_pos h, if_pos (h1 h)]; cases mo' <;> simp
  · have hy : y = r + 2 ^ d * 2 ^ k := by rw [hm, h]
    rw [if_neg (by omega), if_pos h, if_neg (by omega)]
    by_cases hr : r = 0
    · rw [if_pos (by omega)]; simp [hr]
    · rw [if_neg (by omega)]; simp [hr]
  · have := h2 h
    rw [if_neg (by omega), if_neg (by omega), if_neg (by omega), if_neg (by omega)]; cases mo' <;> simp
theorem exact_more (s' d n : Nat) (mo' : Bool) :
    (decide (s' / 2 ^ d % 2 ^ n = 0) && !(mo' || !decide (s' % 2 ^ d = 0))) = (decide (s' % 2 ^ (d + n) = 0) && !mo') := by
  have hm := mod_more s' d n
  have hd := two_pos d
  rw [Bool.eq_iff_iff]
  simp only [Bool.and_eq_true, decide_eq_true_iff, Bool.not_eq_true', Bool.or_eq_false_iff, Bool.not_eq_false']
  rw [hm]
  constructor
  · rintro ⟨h1, h2, h3⟩; rw [h1, h3]; exact ⟨by simp, h2⟩
  · rintro ⟨h1, h2⟩
    have h4 : s' % 2 ^ d = 0 := by omega
    have h5 : 2 ^ d * (s' / 2 ^ d % 2 ^ n) = 0 := by omega
    exact ⟨by rcases Nat.mul_eq_zero.1 h5 with h | h <;> omega, h2, h4⟩
theorem grid_finer {s : Nat} {e : Int} {mo : Bool} {s' : Nat} {e' : Int} {mo' : Bool} (h : Finer s e mo s' e' mo') (m : Nat) (neg : Bool) (at_ : Int) (ha : e < at_) :
    gridN m neg s e mo at_ = gridN m neg s' e' mo' at_ := by
  obtain ⟨hle, rfl, rfl⟩ := h
  obtain ⟨d, hd⟩ : ∃ d, (e - e').toNat = d := ⟨_, rfl⟩
  obtain ⟨n, hn⟩ : ∃ n, (at_ - e).toNat = n := ⟨_, rfl⟩
  have hn' : (at_ - e').toNat = d + n := by omega
  unfold gridN
  rw [if_neg (by omega), if_neg (by omega), hd, hn, hn', half_more s' d n (by omega), exact_more, div_more]
theorem grid_same {s : Nat} {e : Int} {s' : Nat} {e' : Int} (h : Finer s e false s' e' false) (m : Nat) (neg : Bool) (at_ : Int) :
    gridN m neg s e false at_ = gridN m neg s' e' false at_ := by
  by_cases ha : e < at_
  · exact grid_finer h m neg at_ ha
  · obtain ⟨hle, hs, hm⟩ := h
    obtain ⟨d, hd⟩ : ∃ d, (e - e').toNat = d := ⟨_, rfl⟩
    rw [hd] at hs hm
    have hz : s' % 2 ^ d = 0 := by simpa using hm
    have hs' : s' = s * 2 ^ d := by
      have := Nat.div_add_mod s' (2 ^ d)
      rw [hz, ← hs, Nat.mul_comm] at this; omega
    unfold gridN
    rw [if_pos (by omega)]
    by_cases h2 : at_ ≤ e'
    · rw [if_pos h2, hs', Nat.mul_assoc, ← Nat.pow_add, show d + (e' - at_).toNat = (e - at_).toNat by omega]
    · rw [if_neg h2]
      have e1 : 2 ^ d = 2 ^ (at_ - e').toNat * 2 ^ (e - at_).toNat := by rw [← Nat.pow_add, show (at_ - e').toNat + (e - at_).toNat = d by omega]
      have z1 : s' % 2 ^ (at_ - e').toNat = 0 := by rw [hs', e1, Nat.mul_left_comm]; exact Nat.mul_mod_right _ _
      have z2 : s' / 2 ^ (at_ - e').toNat = s * 2 ^ (e - at_).toNat := by rw [hs', e1, Nat.mul_left_comm]; exact Nat.mul_div_cancel_left _ (two_pos _)
      rw [z1, z2]; simp [upB]
theorem lenN_div (a d : Nat) (h : a / 2 ^ d ≠ 0) : lenN (a / 2 ^ d) + d = lenN a := by
  have h1 := lenN_ge _ h
  have h2 := lenN_lt (a / 2 ^ d)
  have h3 := lenN_pos _ h
  symm
  apply lenN_unique
  · rw [show lenN (a / 2 ^ d) + d - 1 = (lenN (a / 2 ^ d) - 1) + d by omega, Nat.pow_add]
    exact (Nat.le_div_iff_mul_le (two_pos d)).1 h1
  · rw [Nat.pow_add]
    exact (Nat.div_lt_iff_lt_mul (two_pos d)).1 h2
  · omega
theorem pack_finer {s : Nat} {e : Int} {mo : Bool} {s' : Nat} {e' : Int} {mo' : Bool} (h : Finer s e mo s' e' mo') (f m : Nat) (neg : Bool) (h0 : s ≠ 0) (hl : mo = true → pF f + 2 ≤ lenN s) :
    packB f m neg s e mo = packB f m neg s' e' mo' := by
  have ht : (lenN s' : Int) - 1 + e' = lenN s - 1 + e := by
    have := lenN_div s' (e - e').toNat (by rw [← h.sig]; exact h0)
    rw [← h.sig] at this
    have := h.le
    omega
  have hg : ∀ at_ : Int, (lenN s : Int) - 1 + e - pF f + 1 ≤ at_ → gridN m neg s e mo at_ = gridN m neg s' e' mo' at_ := by
    intro at_ hat
    cases hmo : mo with
    | true =>
      rw [hmo] at h
      have := hl hmo
      exact grid_finer h m neg at_ (by omega)
    | false =>
      rw [hmo] at h
      have h3 := h.more
      have : mo' = false := by cases mo' with | false => rfl | true => exact absurd h3 (by simp)
      rw [this] at h ⊢
      exact grid_same h m neg at_
  unfold packB tinyB
  rw [ht, hg _ (by unfold atN; omega), hg _ (by omega)]
open Go.RowKit
theorem bit_t (a i : Nat) (h : a.testBit i = true) : a % 2 ^ (i + 1) = a % 2 ^ i + 2 ^ i := by
  rw [mod_split]
  rw [Nat.testBit_eq_decide_div_mod_eq, decide_eq_true_iff] at h
  rw [h, Nat.mul_one]
theorem bit_f (a i : Nat) (h : a.testBit i = false) : a % 2 ^ (i + 1) = a % 2 ^ i := by
  rw [mod_split]
  rw [Nat.testBit_eq_decide_div_mod_eq, decide_eq_false_iff_not] at h
  have : a / 2 ^ i % 2 < 2 := Nat.mod_lt _ (by decide)
  rw [show a / 2 ^ i % 2 = 0 by omega, Nat.mul_zero, Nat.add_zero]
def leftV (a n i : Nat) : Nat := a % 2 ^ i * 2 ^ n % top6
theorem leftV_zero (a n : Nat) : leftV a n 0 = 0 := by unfold leftV; rw [Nat.pow_zero, Nat.mod_one, Nat.zero_mul, Nat.zero_mod]
theorem top6_ge (i n : Nat) (h : i + n ≤ 384) : 2 ^ i * 2 ^ n ≤ top6 := by
  obtain ⟨k, hk⟩ : ∃ k, k = 64 * 6 := ⟨_, rfl⟩
  have e : ∀ k, k = 64 * 6 → top6 = 2 ^ k := by intro k hk; subst hk; exact top6.eq_1
  rw [e k hk, ← Nat.pow_add]
  exact Nat.pow_le_pow_right (by decide) (by omega)
theorem leftV_f (a n i : Nat) (h : a.testBit i = false) : leftV a n (i + 1) = leftV a n i := by unfold leftV; rw [bit_f a i h]
theorem leftV_t (a n i : Nat) (h : a.testBit i = true) (hi : i + n < 384) : leftV a n (i + 1) = leftV a n i + 2 ^ (i + n) ∧ leftV a n i < 2 ^ (i + n) := by
  have h1 : a % 2 ^ i * 2 ^ n < 2 ^ (i + n) := by rw [Nat.pow_add]; exact Nat.mul_lt_mul_of_pos_right (Nat.mod_lt _ (two_pos i)) (two_pos n)
  have h2 : 2 ^ (i + n) + 2 ^ (i + n) ≤ top6 := by
    have := top6_ge (i + 1) n (by omega)
    rw [← Nat.pow_add, show i + 1 + n = (i + n) + 1 by omega, Nat.pow_succ] at this; omega
  unfold leftV
  rw [bit_t a i h, Nat.add_mul, ← Nat.pow_add]
  generalize a % 2 ^ i * 2 ^ n = x at *
  generalize 2 ^ (i + n) = y at *
  rw [Nat.mod_eq_of_lt (show x + y < top6 by omega), Nat.mod_eq_of_lt (show x < top6 by omega)]
  exact ⟨rfl, h1⟩
theorem leftV_o (a n i : Nat) (h : a.testBit i = true) (hi : 384 ≤ i + n) : leftV a n (i + 1) = leftV a n i := by
  unfold leftV
  rw [bit_t a i h, Nat.add_mul, ← Nat.pow_add, show i + n = 64 * 6 + (i + n - 384) by omega, Nat.pow_add, ← top6.eq_1, Nat.add_mul_mod_self_left]
def lostLi (a n i : Nat) : Bool := decide (2 ^ (384 - n) ≤ a % 2 ^ i)
theorem lostLi_lo (a n i : Nat) (hi : i + n ≤ 384) : lostLi a n i = false := by
  unfold lostLi; rw [decide_eq_false_iff_not, Nat.not_le]
  exact Nat.lt_of_lt_of_le (Nat.mod_lt _ (two_pos i)) (Nat.pow_le_pow_right (by decide) (by omega))
theorem lostLi_f (a n i : Nat) (h : a.testBit i = false) : lostLi a n (i + 1) = lostLi a n i := by unfold lostLi; rw [bit_f a i h]
theorem lostLi_t (a n i : Nat) (h : a.testBit i = true) (hi : 384 ≤ i + n) : lostLi a n (i + 1) = true := by
  unfold lostLi; rw [bit_t a i h, decide_eq_true_iff]
  have : 2 ^ (384 - n) ≤ 2 ^ i := Nat.pow_le_pow_right (by decide) (by omega)
  omega
theorem mod_384 (a k : Nat) (hk : k = 384) (ha : a < top6) : a % 2 ^ k = a := Nat.mod_eq_of_lt (by rw [hk, show 384 = 64 * 6 from rfl, ← top6.eq_1]; exact ha)
theorem leftV_all (a n k : Nat) (hk : k = 384) (ha : a < top6) : leftV a n k = a * 2 ^ n % top6 := by unfold leftV; rw [mod_384 a k hk ha]
theorem pow_top (n : Nat) (hn : n ≤ 384) : top6 = 2 ^ (384 - n) * 2 ^ n := by rw [← Nat.pow_add, top6.eq_1, show 384 - n + n = 64 * 6 by omega]
theorem lostLi_all (a n k : Nat) (hk : k = 384) (ha : a < top6) (hn : n ≤ 384) : lostLi a n k = decide (top6 ≤ a * 2 ^ n) := by
  unfold lostLi; rw [mod_384 a k hk ha, pow_top n hn, decide_eq_decide]
  exact ⟨fun h => Nat.mul_le_mul_right _ h, fun h => Nat.le_of_mul_le_mul_right h (two_pos n)⟩
theorem mask_step (i : Nat) : 2 ^ (i + 1) - 1 = (2 ^ i - 1) + 2 ^ i ∧ 2 ^ i - 1 < 2 ^ i := by
  have := two_pos i
  rw [Nat.pow_succ]; omega
theorem set_bit_at (t p i s : Nat) (ht : t < 2 ^ p) (hp : p = 64 * i + s) (hs : s < 64) (hi : i < 6) :
    setRow (limbs t) i (#[.int .u64 (Go.bits .or .u64 (limb t i) (IntKind.u64.wrap (2 ^ s)))] : Array Value).toList = limbs (t + 2 ^ p) := by
  subst hp
  exact limbs_top t i s ht hs hi
open Go.RowKit
section
variable {P : Program} {w0 w : World} {L : List Bk} {op : Oper} {a : Act} {K : Act → World → Prop} {Q : Exit → Act → World → Prop}
theorem Own.op_box (H : Own w0 w L) {T : TypeId} {x : Operand} (ho : op.op = .box T x) {cs : Array Value} (hx : (a.eval x).cells = cs)
    (h : ∀ g w', Own w0 w' ((g, T, cs) :: L) → K (a.put op.dst (.pointer (some ⟨g, 0, none⟩))) w') : op.wp P a w K Q := by
  subst hx
  have hk := h _ _ (H.alloc T (a.eval x).cells)
  unfold Oper.wp execOp
  simp only [ho]
  exact hk
theorem Own.op_alloc (H : Own w0 w L) {T : TypeId} (ho : op.op = .alloc T) {z : Value} (hz : (P.info? T).bind (·.zero) = some z) {cs : Array Value} (hx : z.cells = cs)
    (h : ∀ g w', Own w0 w' ((g, T, cs) :: L) → K (a.put op.dst (.pointer (some ⟨g, 0, none⟩))) w') : op.wp P a w K Q := by
  subst hx
  have hk := h _ _ (H.alloc T z.cells)
  unfold Oper.wp execOp
  simp only [ho, Instr.alloc, Sem.run_bind, run_zeroValue hz, Result.andThen_ok]
  exact hk
theorem Own.op_load (H : Own w0 w L) {ty : TypeId} {x : Operand} (ho : op.op = .load ty x) {g o : Nat} (hx : a.eval x = .pointer (some ⟨g, o, none⟩))
    (i : Nat) {T : TypeId} {cs : Array Value} (hi : L[i]? = some (g, T, cs)) {d : TypeDesc} (hu : P.underlying ty = some d) (hd : d.isRow = true) {v : Array Value} (hv : cs.extract o (o + v.size) = v)
    (hs : (P.info? ty).map (·.size) = some v.size) (h : K (a.put op.dst (.agg v)) w) : op.wp P a w K Q :=
  wp_load_mid (P := P) ty x ho g o hx v.toList d (H.range i hi o _ hv) hu hd (by simpa using hs) (by simpa using h)
theorem Own.op_load1 (H : Own w0 w L) {ty : TypeId} {x : Operand} (ho : op.op = .load ty x) {g o : Nat} (hx : a.eval x = .pointer (some ⟨g, o, none⟩))
    (i : Nat) {T : TypeId} {cs : Array Value} (hi : L[i]? = some (g, T, cs)) {d : TypeDesc} (hu : P.underlying ty = some d) (hd : d.isRow = false) {v : Value}
    (hv : cs[o]? = some v) (h : K (a.put op.dst v) w) : op.wp P a w K Q := by
  unfold Oper.wp execOp
  simp only [ho, hx, Instr.loadAt, Instr.sureAddr, Sem.run_bind, Sem.run_pure, Result.andThen_ok, run_loadVar_one hu hd _ ((H.at i hi).cell o hv)]
  exact h
theorem Own.op_store (H : Own w0 w L) {ty : TypeId} {x y : Operand} (ho : op.op = .store ty x y) {g o : Nat} (hx : a.eval x = .pointer (some ⟨g, o, none⟩))
    {vs : Array Value} (hy : (a.eval y).cells = vs)
    (i : Nat) {T : TypeId} {cs : Array Value} (hi : L[i]? = some (g, T, cs)) {cs' : Array Value} (hv : setRow cs o vs.toList = cs') (hs : (P.info? ty).map (·.size) = some vs.size) (h1 : vs.all (·.oneCell') = true) (hn : o + vs.size ≤ cs.size)
    (h : ∀ w', Own w0 w' (L.set i (g, T, cs')) → K (a.put op.dst undef) w') : op.wp P a w K Q := by
  have hk := h _ (H.set i hi o vs.toList hv)
  have ht := H.there i hi o vs.size hn
  have := run_storeCells_cells (P := P) g o vs.toList 0 w (fun j hj => by simpa using (ht j (by simpa using hj)).1) (fun j hj => by simpa using (ht j (by simpa using hj)).2)
    (fun v hv => (Array.all_eq_true_iff_forall_mem.1 h1) v (by simpa using hv))
  simp only [Nat.add_zero] at this
  have hst : (storeVar ty ⟨g, o, none⟩ (a.eval y)).run P w = .ok () (w.setCells g o vs.toList) := by
    cases hq : P.info? ty with
    | none => simp [hq] at hs
    | some inf =>
      have hs' : vs.size = inf.size := by simp [hq] at hs; omega
      simp [storeVar, sizeOf, typeInfo, hq, hy, hs', this]
  unfold Oper.wp execOp
  simp only [ho, hx, Instr.storeAt, Instr.sureAddr, Sem.run_bind, Sem.run_pure, Result.andThen_ok, hst]
  exact hk
variable {ops : Array Oper} {rest : List Oper}
theorem wp_wanted (hw : Region.wanted op (yielded ops a.tmps) = true) (h : ∀ K : Act → World → Prop, (∀ a w, wpList P ops Q rest a w → K a w) → op.wp P a w K Q) : wpList P ops Q (op :: rest) a w :=
  wpList_step fun K hK => by rw [if_pos hw]; exact h K hK
theorem Own.box (H : Own w0 w L) (hw : Region.wanted op (yielded ops a.tmps) = true) {T : TypeId} {x : Operand} (ho : op.op = .box T x) {cs : Array Value} (hx : (a.eval x).cells = cs)
    (h : ∀ g w', Own w0 w' ((g, T, cs) :: L) → wpList P ops Q rest (a.put op.dst (.pointer (some ⟨g, 0, none⟩))) w') : wpList P ops Q (op :: rest) a w :=
  wp_wanted hw fun _ hK => H.op_box ho hx fun g w' hh => hK _ _ (h g w' hh)
theorem Own.new (H : Own w0 w L) (hw : Region.wanted op (yielded ops a.tmps) = true) {T : TypeId} (ho : op.op = .alloc T) {z : Value} (hz : (P.info? T).bind (·.zero) = some z) {cs : Array Value} (hx : z.cells = cs)
    (h : ∀ g w', Own w0 w' ((g, T, cs) :: L) → wpList P ops Q rest (a.put op.dst (.pointer (some ⟨g, 0, none⟩))) w') : wpList P ops Q (op :: rest) a w :=
  wp_wanted hw fun _ hK => H.op_alloc ho hz hx fun g w' hh => hK _ _ (h g w' hh)
theorem Own.load (H : Own w0 w L) (hw : Region.wanted op (yielded ops a.tmps) = true) {ty : TypeId} {x : Operand} (ho : op.op = .load ty x) {g o : Nat} (hx : a.eval x = .pointer (some ⟨g, o, none⟩))
    (i : Nat) {T : TypeId} {cs : Array Value} (hi : L[i]? = some (g, T, cs)) {d : TypeDesc} (hu : P.underlying ty = some d) (hd : d.isRow = true) {v : Array Value} (hv : cs.extract o (o + v.size) = v)
    (hs : (P.info? ty).map (·.size) = some v.size) (h : wpList P ops Q rest (a.put op.dst (.agg v)) w) : wpList P ops Q (op :: rest) a w :=
  wp_wanted hw fun _ hK => H.op_load ho hx i hi hu hd hv hs (hK _ _ h)
theorem Own.load1 (H : Own w0 w L) (hw : Region.wanted op (yielded ops a.tmps) = true) {ty : TypeId} {x : Operand} (ho : op.op = .load ty x) {g o : Nat} (hx : a.eval x = .pointer (some ⟨g, o, none⟩))
    (i : Nat) {T : TypeId} {cs : Array Value} (hi : L[i]? = some (g, T, cs)) {d : TypeDesc} (hu : P.underlying ty = some d) (hd : d.isRow = false) {v : Value}
    (hv : cs[o]? = some v) (h : wpList P ops Q rest (a.put op.dst v) w) : wpList P ops Q (op :: rest) a w :=
  wp_wanted hw fun _ hK => H.op_load1 ho hx i hi hu hd hv (hK _ _ h)
theorem Own.store (H : Own w0 w L) (hw : Region.wanted op (yielded ops a.tmps) = true) {ty : TypeId} {x y : Operand} (ho : op.op = .store ty x y) {g o : Nat} (hx : a.eval x = .pointer (some ⟨g, o, none⟩))
    {vs : Array Value} (hy : (a.eval y).cells = vs)
    (i : Nat) {T : TypeId} {cs : Array Value} (hi : L[i]? = some (g, T, cs)) {cs' : Array Value} (hv : setRow cs o vs.toList = cs') (hs : (P.info? ty).map (·.size) = some vs.size) (h1 : vs.all (·.oneCell') = true) (hn : o + vs.size ≤ cs.size)
    (h : ∀ w', Own w0 w' (L.set i (g, T, cs')) → wpList P ops Q rest (a.put op.dst undef) w') : wpList P ops Q (op :: rest) a w :=
  wp_wanted hw fun _ hK => H.op_store ho hx hy i hi hv hs h1 hn fun w' hh => hK _ _ (h w' hh)
variable {S : World → Prop} {md : Region.Mode} {fuel : Nat} {listed : Array Bool}
theorem held_one {i : Nat} (hr : Region.ready md ops listed = [i]) (ho : ops[i]? = some op) (hw : Region.wanted op (yielded ops a.tmps) = true)
    (h : op.wp P a w (fun a' w' => S w' ∧ wpAnyH P md ops Q S fuel (listed.setIfInBounds i true) a' w') Q) : wpAnyH P md ops Q S (fuel + 1) listed a w := by
  refine wpAnyH_all hr (by simp) ?_
  intro j hj
  obtain rfl := List.mem_singleton.1 hj
  unfold wpOp
  simp only [ho, hw, if_true]
  exact Or.inl h
theorem held_two {i k : Nat} {op2 : Oper} (hr : Region.ready md ops listed = [i, k]) (ho : ops[i]? = some op) (hw : Region.wanted op (yielded ops a.tmps) = true) (ho2 : ops[k]? = some op2) (hw2 : Region.wanted op2 (yielded ops a.tmps) = true)
    (h : op.wp P a w (fun a' w' => S w' ∧ wpAnyH P md ops Q S fuel (listed.setIfInBounds i true) a' w') Q)
    (h2 : op2.wp P a w (fun a' w' => S w' ∧ wpAnyH P md ops Q S fuel (listed.setIfInBounds k true) a' w') Q) : wpAnyH P md ops Q S (fuel + 1) listed a w := by
  refine wpAnyH_all hr (by simp) ?_
  intro j hj
  rcases List.mem_cons.1 hj with rfl | hj
  · unfold wpOp
    simp only [ho, hw, if_true]
    exact Or.inl h
  · obtain rfl := List.mem_singleton.1 hj
    unfold wpOp
    simp only [ho2, hw2, if_true]
    exact Or.inl h2
end
section
variable {P : Program} {w : World}
variable {fn : Func} {tmps : Array Value}
theorem results_c {t : Tmp} {T : TypeId} (h : fn.results = #[.cell t T]) {A : Addr} (ha : tmps.getD t undef = .pointer (some A)) {v : Value} (hr : (loadVar T A).run P w = .ok v w) :
    (results fn tmps).run P w = .ok v w := by
  rw [Array.getD_eq_getD_getElem?] at ha
  simp [results, h, ha, asAddr, hr]
theorem results_ct {t u : Tmp} {T : TypeId} (h : fn.results = #[.cell t T, .tmp u]) {A : Addr} (ha : tmps.getD t undef = .pointer (some A)) {v : Value} (hr : (loadVar T A).run P w = .ok v w) :
    (results fn tmps).run P w = .ok (.tuple #[v, tmps.getD u undef]) w := by
  rw [Array.getD_eq_getD_getElem?] at ha
  simp [results, h, ha, asAddr, hr]
theorem results_ctt {t u x : Tmp} {T : TypeId} (h : fn.results = #[.cell t T, .tmp u, .tmp x]) {A : Addr} (ha : tmps.getD t undef = .pointer (some A)) {v : Value} (hr : (loadVar T A).run P w = .ok v w) :
    (results fn tmps).run P w = .ok (.tuple #[v, tmps.getD u undef, tmps.getD x undef]) w := by
  rw [Array.getD_eq_getD_getElem?] at ha
  simp [results, h, ha, asAddr, hr]
end
theorem cells_agg (cs : Array Value) : (Value.agg cs).cells = cs := rfl
theorem cells_int (k : IntKind) (n : Int) : (Value.int k n).cells = #[Value.int k n] := rfl
theorem cells_bool (b : Bool) : (Value.bool b).cells = #[Value.bool b] := rfl
theorem cells_ptr (p : Option Addr) : (Value.pointer p).cells = #[Value.pointer p] := rfl
theorem cells_str (s : ByteArray) : (Value.string s).cells = #[Value.string s] := rfl
theorem ext_2 (x y : Value) : (#[x, y] : Array Value).extract 0 (0 + (#[x, y] : Array Value).size) = #[x, y] := rfl
theorem get_20 (x y : Value) : (#[x, y] : Array Value)[0]? = some x := rfl
theorem get_21 (x y : Value) : (#[x, y] : Array Value)[1]? = some y := rfl
theorem get_10 (x : Value) : (#[x] : Array Value)[0]? = some x := rfl
theorem set_20 (x y x' : Value) : setRow #[x, y] 0 (#[x'] : Array Value).toList = #[x', y] := rfl
theorem set_21 (x y y' : Value) : setRow #[x, y] 1 (#[y'] : Array Value).toList = #[x, y'] := rfl
theorem set_10 (x x' : Value) : setRow #[x] 0 (#[x'] : Array Value).toList = #[x'] := rfl
theorem ble_le {a b : Nat} (h : Nat.ble a b = true) : a ≤ b := Nat.le_of_ble_eq_true h
open Go.RowKit
def parts (c : Nat) (s : Nat) (x : Int) (f : Nat) : Array Value := #[.int .u8 c, .int .u64 (limb s 0), .int .u64 (limb s 1), .int .u64 (limb s 2), .int .u64 (limb s 3), .int .u64 (limb s 4), .int .u64 (limb s 5), .int .i64 x, .int .u64 (limb f 0), .int .u64 (limb f 1), .int .u64 (limb f 2), .int .u64 (limb f 3), .int .u64 (limb f 4), .int .u64 (limb f 5)]
abbrev PV (c s : Nat) (x : Int) (f : Nat) : Value := .agg (parts c s x f)
theorem limb_zero (i : Nat) : limb 0 i = 0 := by unfold limb limbN; rw [Nat.zero_div]; rfl
theorem parts_zero (c : Nat) : parts c 0 0 0 = #[.int .u8 c, .int .u64 0, .int .u64 0, .int .u64 0, .int .u64 0, .int .u64 0, .int .u64 0, .int .i64 0, .int .u64 0, .int .u64 0, .int .u64 0, .int .u64 0, .int .u64 0, .int .u64 0] := by
  unfold parts; simp only [limb_zero]
open Go.RowKit
def rough (neg : Bool) (s : Nat) (e : Int) (mo : Bool) : Array Value := #[.bool neg, .int .u64 (limb s 0), .int .u64 (limb s 1), .int .u64 (limb s 2), .int .u64 (limb s 3), .int .u64 (limb s 4), .int .u64 (limb s 5), .int .i64 e, .bool mo]
abbrev RV (neg : Bool) (s : Nat) (e : Int) (mo : Bool) : Value := .agg (rough neg s e mo)
theorem tW_s : (Tryz.prog.info? 60).map (·.size) = some 6 := by kernel_rfl
theorem tB_s : (Tryz.prog.info? 27).map (·.size) = some 2 := by kernel_rfl
theorem tP_s : (Tryz.prog.info? 100).map (·.size) = some 14 := by kernel_rfl
theorem tR_s : (Tryz.prog.info? 83).map (·.size) = some 9 := by kernel_rfl
theorem t3_s : (Tryz.prog.info? 101).map (·.size) = some 42 := by kernel_rfl
theorem tu_s : (Tryz.prog.info? 25).map (·.size) = some 1 := by kernel_rfl
theorem ti_s : (Tryz.prog.info? 3).map (·.size) = some 1 := by kernel_rfl
theorem tb_s : (Tryz.prog.info? 4).map (·.size) = some 1 := by kernel_rfl
theorem tc_s : (Tryz.prog.info? 65).map (·.size) = some 1 := by kernel_rfl
theorem tW_z : (Tryz.prog.info? 60).bind (·.zero) = some (W 0) := by rw [show W 0 = .agg (limbs 0) from rfl, limbs_zero]; kernel_rfl
theorem tB_z : (Tryz.prog.info? 27).bind (·.zero) = some (.agg #[.int .u64 0, .int .u64 0]) := by kernel_rfl
theorem tP_z : (Tryz.prog.info? 100).bind (·.zero) = some (PV 0 0 0 0) := by rw [show PV 0 0 0 0 = .agg (parts 0 0 0 0) from rfl, parts_zero]; kernel_rfl
theorem rough_zero : rough false 0 0 false = #[.bool false, .int .u64 0, .int .u64 0, .int .u64 0, .int .u64 0, .int .u64 0, .int .u64 0, .int .i64 0, .bool false] := by
  unfold rough; simp only [limb_zero]
theorem tR_z : (Tryz.prog.info? 83).bind (·.zero) = some (RV false 0 0 false) := by rw [show RV false 0 0 false = .agg (rough false 0 0 false) from rfl, rough_zero]; kernel_rfl
theorem tu_z : (Tryz.prog.info? 25).bind (·.zero) = some (.int .u64 0) := by kernel_rfl
theorem ext_limbs (a : Nat) : (limbs a).extract 0 (0 + (limbs a).size) = limbs a := rfl
theorem ext_parts (c s : Nat) (x : Int) (f : Nat) : (parts c s x f).extract 0 (0 + (parts c s x f).size) = parts c s x f := rfl
theorem ext_parts_s (c s : Nat) (x : Int) (f : Nat) : (parts c s x f).extract 1 (1 + (limbs s).size) = limbs s := rfl
theorem ext_parts_f (c s : Nat) (x : Int) (f : Nat) : (parts c s x f).extract 8 (8 + (limbs f).size) = limbs f := rfl
theorem ext_rough (neg : Bool) (s : Nat) (e : Int) (mo : Bool) : (rough neg s e mo).extract 0 (0 + (rough neg s e mo).size) = rough neg s e mo := rfl
theorem ext_rough_s (neg : Bool) (s : Nat) (e : Int) (mo : Bool) : (rough neg s e mo).extract 1 (1 + (limbs s).size) = limbs s := rfl
theorem get_rough0 (neg : Bool) (s : Nat) (e : Int) (mo : Bool) : (rough neg s e mo)[0]? = some (.bool neg) := rfl
theorem get_rough7 (neg : Bool) (s : Nat) (e : Int) (mo : Bool) : (rough neg s e mo)[7]? = some (.int .i64 e) := rfl
theorem get_rough8 (neg : Bool) (s : Nat) (e : Int) (mo : Bool) : (rough neg s e mo)[8]? = some (.bool mo) := rfl
theorem get_parts0 (c s : Nat) (x : Int) (f : Nat) : (parts c s x f)[0]? = some (.int .u8 c) := rfl
theorem get_parts7 (c s : Nat) (x : Int) (f : Nat) : (parts c s x f)[7]? = some (.int .i64 x) := rfl
theorem one_of {vs : Array Value} (h : vs.toList.all (·.oneCell') = true) : vs.all (·.oneCell') = true := by rw [← Array.all_toList]; exact h
theorem setRow_get (vs : List Value) : ∀ (cs : Array Value) (o j : Nat), o + vs.length ≤ cs.size → (setRow cs o vs)[j]? = if j < o then cs[j]? else if j < o + vs.length then vs[j - o]? else cs[j]? := by
  induction vs with
  | nil => intro cs o j _; rw [setRow]; by_cases h : j < o <;> simp [h]
  | cons v r ih =>
    intro cs o j h
    rw [List.length_cons] at h
    rw [setRow, ih _ _ _ (by rw [Array.size_setIfInBounds]; omega), Array.getElem?_setIfInBounds, List.length_cons]
    by_cases h1 : j < o
    · rw [if_pos (by omega), if_neg (by omega), if_pos h1]
    · by_cases h2 : j = o
      · subst h2
        rw [if_pos (by omega), if_pos rfl, if_pos (by omega), if_neg (by omega), if_pos (by omega), Nat.sub_self]; rfl
      · rw [if_neg (by omega), if_neg h1]
        by_cases h3 : j < o + (r.length + 1)
        · rw [if_pos (by omega), if_pos h3, show j - o = (j - (o + 1)) + 1 by omega]; rfl
        · rw [if_neg (by omega), if_neg (by omega), if_neg h3]
theorem set_all (cs vs : Array Value) (h : cs.size = vs.size) : setRow cs 0 vs.toList = vs := by
  apply Array.ext_getElem?
  intro j
  rw [setRow_get _ _ _ _ (by simp [h]), if_neg (by omega)]
  by_cases hj : j < 0 + vs.toList.length
  · rw [if_pos hj]; simp
  · rw [if_neg hj, Array.getElem?_eq_none (by simp at hj; omega), Array.getElem?_eq_none (by simp at hj; omega)]
theorem set_zero6 (cs : Array Value) (h : cs.size = 6) : setRow cs 0 (#[.int .u64 0, .int .u64 0, .int .u64 0, .int .u64 0, .int .u64 0, .int .u64 0] : Array Value).toList = limbs 0 := by rw [limbs_zero]; exact set_all _ _ h
theorem set_parts_s (c s : Nat) (x : Int) (f s' : Nat) : setRow (parts c s x f) 1 (limbs s').toList = parts c s' x f := rfl
theorem set_parts_f (c s : Nat) (x : Int) (f f' : Nat) : setRow (parts c s x f) 8 (limbs f').toList = parts c s x f' := rfl
theorem set_parts_x (c s : Nat) (x : Int) (f : Nat) (x' : Int) : setRow (parts c s x f) 7 (#[.int .i64 x'] : Array Value).toList = parts c s x' f := rfl
theorem set_rough_s (neg : Bool) (s : Nat) (e : Int) (mo : Bool) (s' : Nat) : setRow (rough neg s e mo) 1 (limbs s').toList = rough neg s' e mo := rfl
theorem set_rough_n (neg : Bool) (s : Nat) (e : Int) (mo neg' : Bool) : setRow (rough neg s e mo) 0 (#[.bool neg'] : Array Value).toList = rough neg' s e mo := rfl
open Go.RowKit
section
variable {P : Program} {w0 w : World} {L L' : List Bk} {op : Oper} {a : Act} {Q : Exit → Act → World → Prop} {ops : Array Oper} {S : World → Prop} {md : Region.Mode} {fuel : Nat} {listed : Array Bool}
theorem Own.heldSub (H : Own w0 w L) {id : Nat} (hm : P.follows .mixedOrders = true) {L' : List Bk} (_hL : List.Sublist L' L) (h : Own w0 w.drew L → wpAnyH P .any ops Q (fun w' => Own w0 w' L') ops.size (Array.replicate ops.size false) a w.drew) :
    (Code.region id ops true).wp P Q a w := wp_region_held hm (h H.drew)
theorem Own.takeRun (H : Own w0 w L) (hL : List.Sublist L' L) (i : Nat) (hi : ops[i]? = some op) (hs : Region.noSelect ops = true) (hf : Region.free md ops listed i = true) (hr : (Region.ready md ops listed).contains i = true)
    (hQ : ∀ v c a w, Q (.panic c) (a.put op.dst v) w → Q (.panic c) a w) (hw : Region.wanted op (yielded ops a.tmps) = true) {v : Value} (hv : ∀ w, (execOp a.eval op).run P w = .ok (.value v) w)
    (h : wpAnyH P md ops Q (fun w' => Own w0 w' L') fuel (listed.setIfInBounds i true) (a.put op.dst v) w) : wpAnyH P md ops Q (fun w' => Own w0 w' L') (fuel + 1) listed a w :=
  wpAnyH_take hi hs hf hr (hQ v) (yields_run hw hv) (H.sub hL) h
theorem Own.takeLoad (H : Own w0 w L) (hL : List.Sublist L' L) (i : Nat) (hi : ops[i]? = some op) (hs : Region.noSelect ops = true) (hf : Region.free md ops listed i = true) (hr : (Region.ready md ops listed).contains i = true)
    (hQ : ∀ v c a w, Q (.panic c) (a.put op.dst v) w → Q (.panic c) a w) (hw : Region.wanted op (yielded ops a.tmps) = true)
    {ty : TypeId} {x : Operand} (ho : op.op = .load ty x) {g o : Nat} (hx : a.eval x = .pointer (some ⟨g, o, none⟩))
    (j : Nat) {T : TypeId} {cs : Array Value} (hj : L'[j]? = some (g, T, cs)) {d : TypeDesc} (hu : P.underlying ty = some d) (hd : d.isRow = true) {v : Array Value} (hv : cs.extract o (o + v.size) = v) (hz : (P.info? ty).map (·.size) = some v.size)
    (h : wpAnyH P md ops Q (fun w' => Own w0 w' L') fuel (listed.setIfInBounds i true) (a.put op.dst (.agg v)) w) : wpAnyH P md ops Q (fun w' => Own w0 w' L') (fuel + 1) listed a w :=
  wpAnyH_take hi hs hf hr (hQ _) (yields_load (fun _ h => h) hw ho hx j hj hu hd hz hv) (H.sub hL) h
theorem Own.takeLoad1 (H : Own w0 w L) (hL : List.Sublist L' L) (i : Nat) (hi : ops[i]? = some op) (hs : Region.noSelect ops = true) (hf : Region.free md ops listed i = true) (hr : (Region.ready md ops listed).contains i = true)
    (hQ : ∀ v c a w, Q (.panic c) (a.put op.dst v) w → Q (.panic c) a w) (hw : Region.wanted op (yielded ops a.tmps) = true)
    {ty : TypeId} {x : Operand} (ho : op.op = .load ty x) {g o : Nat} (hx : a.eval x = .pointer (some ⟨g, o, none⟩))
    (j : Nat) {T : TypeId} {cs : Array Value} (hj : L'[j]? = some (g, T, cs)) {d : TypeDesc} (hu : P.underlying ty = some d) (hd : d.isRow = false) {v : Value} (hv : cs[o]? = some v)
    (h : wpAnyH P md ops Q (fun w' => Own w0 w' L') fuel (listed.setIfInBounds i true) (a.put op.dst v) w) : wpAnyH P md ops Q (fun w' => Own w0 w' L') (fuel + 1) listed a w :=
  wpAnyH_take hi hs hf hr (hQ _) (yields_load1 (fun _ h => h) hw ho hx j hj hu hd hv) (H.sub hL) h
end
open Go.RowKit
inductive Upd (g : Nat) (T : TypeId) (cs cs' : Array Value) : List Bk → List Bk → Prop
  | head (L : List Bk) : Upd g T cs cs' ((g, T, cs) :: L) ((g, T, cs') :: L)
  | tail {L L' : List Bk} (x : Bk) (h : Upd g T cs cs' L L') : Upd g T cs cs' (x :: L) (x :: L')
theorem Upd.place {g : Nat} {T : TypeId} {cs cs' : Array Value} {L L' : List Bk} (h : Upd g T cs cs' L L') : ∃ i, L[i]? = some (g, T, cs) ∧ L' = L.set i (g, T, cs') := by
  induction h with
  | head L => exact ⟨0, rfl, rfl⟩
  | tail x h ih =>
    obtain ⟨i, h1, h2⟩ := ih
    exact ⟨i + 1, by rw [List.getElem?_cons_succ]; exact h1, by rw [h2]; rfl⟩
theorem place_of_mem {L : List Bk} {x : Bk} (h : x ∈ L) : ∃ i : Nat, L[i]? = some x := by
  obtain ⟨i, hi, rfl⟩ := List.mem_iff_getElem.1 h
  exact ⟨i, List.getElem?_eq_getElem hi⟩
structure IsRow (P : Program) (t : TypeId) (n : Nat) (z : Array Value) : Prop where
  row : ∃ d, P.underlying t = some d ∧ d.isRow = true
  size : (P.info? t).map (·.size) = some n
  zero : (P.info? t).bind (·.zero) = some (.agg z)
structure IsOne (P : Program) (t : TypeId) : Prop where
  one : ∃ d, P.underlying t = some d ∧ d.isRow = false
  size : (P.info? t).map (·.size) = some 1
section
variable {P : Program} {w0 w : World} {L L' : List Bk} {op : Oper} {a : Act} {Q : Exit → Act → World → Prop} {ops : Array Oper} {rest : List Oper} {K : Act → World → Prop}
theorem Own.mk0 (H : Own w0 w L) (hw : Region.wanted op (yielded ops a.tmps) = true) {t : TypeId} {n : Nat} {z : Array Value} (R : IsRow P t n z) (ho : op.op = .alloc t)
    (h : ∀ g w', Own w0 w' ((g, t, z) :: L) → wpList P ops Q rest (a.put op.dst (.pointer (some ⟨g, 0, none⟩))) w') : wpList P ops Q (op :: rest) a w :=
  H.new hw ho R.zero rfl h
theorem Own.ld (H : Own w0 w L) (hw : Region.wanted op (yielded ops a.tmps) = true) {t : TypeId} {n : Nat} {z : Array Value} (R : IsRow P t n z) {x : Operand} (ho : op.op = .load t x) {g o : Nat} (hx : a.eval x = .pointer (some ⟨g, o, none⟩))
    {T : TypeId} {cs : Array Value} (hi : (g, T, cs) ∈ L) {v : Array Value} (hv : cs.extract o (o + v.size) = v) (hs : v.size = n) (h : wpList P ops Q rest (a.put op.dst (.agg v)) w) : wpList P ops Q (op :: rest) a w := by
  obtain ⟨i, hi⟩ := place_of_mem hi
  obtain ⟨d, hu, hd⟩ := R.row
  exact H.load hw ho hx i hi hu hd hv (by rw [R.size, hs]) h
theorem Own.ld1 (H : Own w0 w L) (hw : Region.wanted op (yielded ops a.tmps) = true) {t : TypeId} (R : IsOne P t) {x : Operand} (ho : op.op = .load t x) {g o : Nat} (hx : a.eval x = .pointer (some ⟨g, o, none⟩))
    {T : TypeId} {cs : Array Value} (hi : (g, T, cs) ∈ L) {v : Value} (hv : cs[o]? = some v) (h : wpList P ops Q rest (a.put op.dst v) w) : wpList P ops Q (op :: rest) a w := by
  obtain ⟨i, hi⟩ := place_of_mem hi
  obtain ⟨d, hu, hd⟩ := R.one
  exact H.load1 hw ho hx i hi hu hd hv h
theorem Own.st (H : Own w0 w L) (hw : Region.wanted op (yielded ops a.tmps) = true) {t : TypeId} {n : Nat} {z : Array Value} (R : IsRow P t n z) {x y : Operand} (ho : op.op = .store t x y) {g o : Nat} (hx : a.eval x = .pointer (some ⟨g, o, none⟩))
    {vs : Array Value} (hy : (a.eval y).cells = vs) {T : TypeId} {cs cs' : Array Value} (hi : Upd g T cs cs' L L') (hv : setRow cs o vs.toList = cs') (hs : vs.size = n) (h1 : vs.all (·.oneCell') = true) (hn : o + vs.size ≤ cs.size)
    (h : ∀ w', Own w0 w' L' → wpList P ops Q rest (a.put op.dst undef) w') : wpList P ops Q (op :: rest) a w := by
  obtain ⟨i, hj, rfl⟩ := hi.place
  exact H.store hw ho hx hy i hj hv (by rw [R.size, hs]) h1 hn h
theorem Own.st1 (H : Own w0 w L) (hw : Region.wanted op (yielded ops a.tmps) = true) {t : TypeId} (R : IsOne P t) {x y : Operand} (ho : op.op = .store t x y) {g o : Nat} (hx : a.eval x = .pointer (some ⟨g, o, none⟩))
    {vs : Array Value} (hy : (a.eval y).cells = vs) {T : TypeId} {cs cs' : Array Value} (hi : Upd g T cs cs' L L') (hv : setRow cs o vs.toList = cs') (hs : vs.size = 1) (h1 : vs.all (·.oneCell') = true) (hn : o + vs.size ≤ cs.size)
    (h : ∀ w', Own w0 w' L' → wpList P ops Q rest (a.put op.dst undef) w') : wpList P ops Q (op :: rest) a w := by
  obtain ⟨i, hj, rfl⟩ := hi.place
  exact H.store hw ho hx hy i hj hv (by rw [R.size, hs]) h1 hn h
theorem Own.old (H : Own w0 w L) {t : TypeId} {n : Nat} {z : Array Value} (R : IsRow P t n z) {x : Operand} (ho : op.op = .load t x) {g o : Nat} (hx : a.eval x = .pointer (some ⟨g, o, none⟩))
    {T : TypeId} {cs : Array Value} (hi : (g, T, cs) ∈ L) {v : Array Value} (hv : cs.extract o (o + v.size) = v) (hs : v.size = n) (h : K (a.put op.dst (.agg v)) w) : op.wp P a w K Q := by
  obtain ⟨i, hi⟩ := place_of_mem hi
  obtain ⟨d, hu, hd⟩ := R.row
  exact H.op_load ho hx i hi hu hd hv (by rw [R.size, hs]) h
theorem Own.old1 (H : Own w0 w L) {t : TypeId} (R : IsOne P t) {x : Operand} (ho : op.op = .load t x) {g o : Nat} (hx : a.eval x = .pointer (some ⟨g, o, none⟩))
    {T : TypeId} {cs : Array Value} (hi : (g, T, cs) ∈ L) {v : Value} (hv : cs[o]? = some v) (h : K (a.put op.dst v) w) : op.wp P a w K Q := by
  obtain ⟨i, hi⟩ := place_of_mem hi
  obtain ⟨d, hu, hd⟩ := R.one
  exact H.op_load1 ho hx i hi hu hd hv h
theorem Own.ost (H : Own w0 w L) {t : TypeId} {n : Nat} {z : Array Value} (R : IsRow P t n z) {x y : Operand} (ho : op.op = .store t x y) {g o : Nat} (hx : a.eval x = .pointer (some ⟨g, o, none⟩))
    {vs : Array Value} (hy : (a.eval y).cells = vs) {T : TypeId} {cs cs' : Array Value} (hi : Upd g T cs cs' L L') (hv : setRow cs o vs.toList = cs') (hs : vs.size = n) (h1 : vs.all (·.oneCell') = true) (hn : o + vs.size ≤ cs.size)
    (h : ∀ w', Own w0 w' L' → K (a.put op.dst undef) w') : op.wp P a w K Q := by
  obtain ⟨i, hj, rfl⟩ := hi.place
  exact H.op_store ho hx hy i hj hv (by rw [R.size, hs]) h1 hn h
theorem Own.ost1 (H : Own w0 w L) {t : TypeId} (R : IsOne P t) {x y : Operand} (ho : op.op = .store t x y) {g o : Nat} (hx : a.eval x = .pointer (some ⟨g, o, none⟩))
    {vs : Array Value} (hy : (a.eval y).cells = vs) {T : TypeId} {cs cs' : Array Value} (hi : Upd g T cs cs' L L') (hv : setRow cs o vs.toList = cs') (hs : vs.size = 1) (h1 : vs.all (·.oneCell') = true) (hn : o + vs.size ≤ cs.size)
    (h : ∀ w', Own w0 w' L' → K (a.put op.dst undef) w') : op.wp P a w K Q := by
  obtain ⟨i, hj, rfl⟩ := hi.place
  exact H.op_store ho hx hy i hj hv (by rw [R.size, hs]) h1 hn h
variable {md : Region.Mode} {fuel : Nat} {listed : Array Bool}
theorem Own.tk (H : Own w0 w L) (hL : List.Sublist L' L) (i : Nat) (hi : ops[i]? = some op) (hs : Region.noSelect ops = true) (hf : Region.free md ops listed i = true) (hr : (Region.ready md ops listed).contains i = true)
    (hQ : ∀ v c a w, Q (.panic c) (a.put op.dst v) w → Q (.panic c) a w) (hw : Region.wanted op (yielded ops a.tmps) = true)
    {t : TypeId} {n : Nat} {z : Array Value} (R : IsRow P t n z) {x : Operand} (ho : op.op = .load t x) {g o : Nat} (hx : a.eval x = .pointer (some ⟨g, o, none⟩))
    {T : TypeId} {cs : Array Value} (hj : (g, T, cs) ∈ L') {v : Array Value} (hv : cs.extract o (o + v.size) = v) (hz : v.size = n)
    (h : wpAnyH P md ops Q (fun w' => Own w0 w' L') fuel (listed.setIfInBounds i true) (a.put op.dst (.agg v)) w) : wpAnyH P md ops Q (fun w' => Own w0 w' L') (fuel + 1) listed a w := by
  obtain ⟨j, hj⟩ := place_of_mem hj
  obtain ⟨d, hu, hd⟩ := R.row
  exact H.takeLoad hL i hi hs hf hr hQ hw ho hx j hj hu hd hv (by rw [R.size, hz]) h
theorem Own.tk1 (H : Own w0 w L) (hL : List.Sublist L' L) (i : Nat) (hi : ops[i]? = some op) (hs : Region.noSelect ops = true) (hf : Region.free md ops listed i = true) (hr : (Region.ready md ops listed).contains i = true)
    (hQ : ∀ v c a w, Q (.panic c) (a.put op.dst v) w → Q (.panic c) a w) (hw : Region.wanted op (yielded ops a.tmps) = true)
    {t : TypeId} (R : IsOne P t) {x : Operand} (ho : op.op = .load t x) {g o : Nat} (hx : a.eval x = .pointer (some ⟨g, o, none⟩))
    {T : TypeId} {cs : Array Value} (hj : (g, T, cs) ∈ L') {v : Value} (hv : cs[o]? = some v)
    (h : wpAnyH P md ops Q (fun w' => Own w0 w' L') fuel (listed.setIfInBounds i true) (a.put op.dst v) w) : wpAnyH P md ops Q (fun w' => Own w0 w' L') (fuel + 1) listed a w := by
  obtain ⟨j, hj⟩ := place_of_mem hj
  obtain ⟨d, hu, hd⟩ := R.one
  exact H.takeLoad1 hL i hi hs hf hr hQ hw ho hx j hj hu hd hv h
theorem Own.res (H : Own w0 w L) {t : TypeId} {n : Nat} {z : Array Value} (R : IsRow P t n z) {g o : Nat} {T : TypeId} {cs : Array Value} (hi : (g, T, cs) ∈ L) {v : Array Value} (hv : cs.extract o (o + v.size) = v) (hs : v.size = n) :
    (loadVar t ⟨g, o, none⟩).run P w = .ok (.agg v) w := by
  obtain ⟨i, hi⟩ := place_of_mem hi
  obtain ⟨d, hu, hd⟩ := R.row
  exact H.result i hi hu hd (by rw [R.size, hs]) hv
end
open Go.RowKit
section
variable {P : Program} {w0 w : World} {L L' : List Bk} {op : Oper} {a : Act} {Q : Exit → Act → World → Prop} {ops : Array Oper} {rest : List Oper} {K : Act → World → Prop}
theorem Own.was (H : Own w0 w L) {T : TypeId} {g : Nat} {cs : Array Value} (hb : Blk T w0 g cs) : Blk T w g cs := hb.below H.below hb.lt
theorem Own.oal (H : Own w0 w L) {t : TypeId} {n : Nat} {z : Array Value} (R : IsRow P t n z) (ho : op.op = .alloc t)
    (h : ∀ g w', Own w0 w' ((g, t, z) :: L) → K (a.put op.dst (.pointer (some ⟨g, 0, none⟩))) w') : op.wp P a w K Q :=
  H.op_alloc ho R.zero rfl h
theorem foldl_set (vs : List Value) : ∀ (k off : Nat) (cs : Array Value), (vs.zipIdx k).foldl (fun cs (c : Value × Nat) => cs.setIfInBounds (off + c.2) c.1) cs = setRow cs (off + k) vs := by
  induction vs with
  | nil => intro k off cs; rfl
  | cons v r ih =>
    intro k off cs
    rw [List.zipIdx_cons, List.foldl_cons, ih, setRow]; rfl
theorem foldl_cells (v : Value) (off : Nat) (cs : Array Value) : v.cells.zipIdx.foldl (fun cs (c, j) => cs.setIfInBounds (off + j) c) cs = setRow cs off v.cells.toList := by
  have := foldl_set v.cells.toList 0 off cs
  rw [Nat.add_zero] at this
  rw [← this, ← Array.foldl_toList, Array.toList_zipIdx]
theorem setRow_at (cs : Array Value) (o : Nat) (v : Array Value) (j : Nat) (h : o + v.size ≤ cs.size) : (setRow cs o v.toList)[j]? = if j < o then cs[j]? else if j < o + v.size then v[j - o]? else cs[j]? := by
  have : ∀ (vs : List Value) (cs : Array Value) (o j : Nat), o + vs.length ≤ cs.size → (setRow cs o vs)[j]? = if j < o then cs[j]? else if j < o + vs.length then vs[j - o]? else cs[j]? := by
    intro vs
    induction vs with
    | nil => intro cs o j _; rw [setRow]; by_cases h : j < o <;> simp [h]
    | cons v r ih =>
      intro cs o j h
      rw [List.length_cons] at h
      rw [setRow, ih _ _ _ (by rw [Array.size_setIfInBounds]; omega), Array.getElem?_setIfInBounds, List.length_cons]
      by_cases h1 : j < o
      · rw [if_pos (by omega), if_neg (by omega), if_pos h1]
      · by_cases h2 : j = o
        · subst h2
          rw [if_pos (by omega), if_pos rfl, if_pos (by omega), if_neg (by omega), if_pos (by omega), Nat.sub_self]; rfl
        · rw [if_neg (by omega), if_neg h1]
          by_cases h3 : j < o + (r.length + 1)
          · rw [if_pos (by omega), if_pos h3, show j - o = (j - (o + 1)) + 1 by omega]; rfl
          · rw [if_neg (by omega), if_neg (by omega), if_neg h3]
  have h2 := this v.toList cs o j (by simpa using h)
  simpa using h2
end
theorem app2_1 (u v : Array Value) {n : Nat} (h : u.size = n) : (u ++ v).extract n (n + v.size) = v := by subst h; simp
theorem app3_0 (u v x : Array Value) : (u ++ v ++ x).extract 0 (0 + u.size) = u := by simp
theorem app3_1 (u v x : Array Value) {n : Nat} (h : u.size = n) : (u ++ v ++ x).extract n (n + v.size) = v := by subst h; simp
theorem app3_2 (u v x : Array Value) {n : Nat} (h : u.size + v.size = n) : (u ++ v ++ x).extract n (n + x.size) = x := app2_1 (u ++ v) x (by rw [Array.size_append]; exact h)
open Go.RowKit
section
variable {P : Program} {w0 w : World} {L L' : List Bk} {op : Oper} {a : Act} {Q : Exit → Act → World → Prop} {ops : Array Oper} {rest : List Oper} {K : Act → World → Prop} {md : Region.Mode} {fuel : Nat} {listed : Array Bool} {S : World → Prop}
  {t : TypeId} {n g o : Nat} {z cs cs' vs : Array Value} {v : Value} {r : Array Value} {x y : Operand} {T : TypeId} {op2 op3 : Oper}
theorem Own.xa (H : Own w0 w L) (h : ∀ g w', Own w0 w' ((g, t, z) :: L) → wpList P ops Q rest (a.put op.dst (.pointer (some ⟨g, 0, none⟩))) w') (hw : Region.wanted op (yielded ops a.tmps) = true := by exact rfl) (ho : op.op = .alloc t := by exact rfl) (R : IsRow P t n z := by first | with_reducible exact rW | with_reducible exact rB | with_reducible exact rP | with_reducible exact rR | with_reducible exact rQ | with_reducible exact rV | with_reducible exact rEx | with_reducible exact rFd | with_reducible exact rD | with_reducible exact rE) : wpList P ops Q (op :: rest) a w := H.mk0 hw R ho h
theorem Own.xb (H : Own w0 w L) (h : ∀ g w', Own w0 w' ((g, T, cs) :: L) → wpList P ops Q rest (a.put op.dst (.pointer (some ⟨g, 0, none⟩))) w') (hw : Region.wanted op (yielded ops a.tmps) = true := by exact rfl) (ho : op.op = .box T x := by exact rfl) (hx : (a.eval x).cells = cs := by first | exact cells_int _ _ | exact cells_bool _ | exact cells_str _ | exact cells_ptr _ | exact cells_agg _) : wpList P ops Q (op :: rest) a w := H.box hw ho hx h
theorem Own.xl (H : Own w0 w L) (h : wpList P ops Q rest (a.put op.dst (.agg r)) w) (hw : Region.wanted op (yielded ops a.tmps) = true := by exact rfl) (ho : op.op = .load t x := by exact rfl) (hx : a.eval x = .pointer (some ⟨g, o, none⟩) := by exact rfl) (R : IsRow P t n z := by first | with_reducible exact rW | with_reducible exact rB | with_reducible exact rP | with_reducible exact rR | with_reducible exact rQ | with_reducible exact rV | with_reducible exact rEx | with_reducible exact rFd | with_reducible exact rD | with_reducible exact rE) (hi : (g, T, cs) ∈ L := by repeat (first | with_reducible exact List.mem_cons_self | apply List.mem_cons_of_mem)) (hv : cs.extract o (o + r.size) = r ∧ r.size = n := by first | exact ⟨by with_reducible exact ext_limbs _, by rfl⟩ | exact ⟨by with_reducible exact ext_2 _ _, by rfl⟩ | exact ⟨by with_reducible exact ext_parts _ _ _ _, by rfl⟩ | exact ⟨by with_reducible exact ext_rough _ _ _ _, by rfl⟩ | exact ⟨by with_reducible exact ext_ex _ _ _ _, by rfl⟩ | exact ⟨by with_reducible exact ext_fd _ _ _ _, by rfl⟩ | exact ⟨by with_reducible exact ext_parts_s _ _ _ _, by rfl⟩ | exact ⟨by with_reducible exact ext_rough_s _ _ _ _, by rfl⟩ | exact ⟨by with_reducible exact ext_parts_f _ _ _ _, by rfl⟩ | exact ⟨by with_reducible exact ext_t0 _ _ _ _ _ _ _ _ _ _ _ _, by rfl⟩ | exact ⟨by with_reducible exact ext_t1 _ _ _ _ _ _ _ _ _ _ _ _, by rfl⟩ | exact ⟨by with_reducible exact ext_t2 _ _ _ _ _ _ _ _ _ _ _ _, by rfl⟩ | exact ⟨by with_reducible exact ext_12 _, by rfl⟩ | exact ⟨by with_reducible exact ext_tri _ _ _ _ _ _ _ _ _ _ _ _, by rfl⟩ | exact ⟨by with_reducible exact ext_v8 _ _ _ _ _ _ _ _, by rfl⟩) : wpList P ops Q (op :: rest) a w := H.ld hw R ho hx hi hv.1 hv.2 h
theorem Own.xm (H : Own w0 w L) (h : wpList P ops Q rest (a.put op.dst v) w) (hw : Region.wanted op (yielded ops a.tmps) = true := by exact rfl) (ho : op.op = .load t x := by exact rfl) (hx : a.eval x = .pointer (some ⟨g, o, none⟩) := by exact rfl) (R : IsOne P t := by first | with_reducible exact oU | with_reducible exact oI | with_reducible exact oT | with_reducible exact oC | with_reducible exact oNat | with_reducible exact oY | with_reducible exact oF | with_reducible exact oS | with_reducible exact oK | with_reducible exact oX) (hi : (g, T, cs) ∈ L := by repeat (first | with_reducible exact List.mem_cons_self | apply List.mem_cons_of_mem)) (hv : cs[o]? = some v := by first | with_reducible exact get_10 _ | with_reducible exact get_20 _ _ | with_reducible exact get_21 _ _ | with_reducible exact limbs_o0 _ | with_reducible exact limbs_o1 _ | with_reducible exact limbs_o2 _ | with_reducible exact limbs_o3 _ | with_reducible exact limbs_o4 _ | with_reducible exact limbs_o5 _ | with_reducible exact get_rough7 _ _ _ _ | with_reducible exact get_parts7 _ _ _ _ | with_reducible exact get_rough0 _ _ _ _ | with_reducible exact get_rough8 _ _ _ _ | with_reducible exact get_parts0 _ _ _ _ | with_reducible exact get_ex0 _ _ _ _ | with_reducible exact get_ex1 _ _ _ _ | with_reducible exact get_ex2 _ _ _ _ | with_reducible exact get_ex3 _ _ _ _ | with_reducible exact get_fd1 _ _ _ _ | with_reducible exact get_fd3 _ _ _ _) : wpList P ops Q (op :: rest) a w := H.ld1 hw R ho hx hi hv h
theorem Own.xs (H : Own w0 w L) (h : ∀ w', Own w0 w' L' → wpList P ops Q rest (a.put op.dst undef) w') (hw : Region.wanted op (yielded ops a.tmps) = true := by exact rfl) (ho : op.op = .store t x y := by exact rfl) (hx : a.eval x = .pointer (some ⟨g, o, none⟩) := by exact rfl) (R : IsRow P t n z := by first | with_reducible exact rW | with_reducible exact rB | with_reducible exact rP | with_reducible exact rR | with_reducible exact rQ | with_reducible exact rV | with_reducible exact rEx | with_reducible exact rFd | with_reducible exact rD | with_reducible exact rE) (hy : (a.eval y).cells = vs := by exact cells_agg _) (hm : (g, T, cs) ∈ L := by repeat (first | with_reducible exact List.mem_cons_self | apply List.mem_cons_of_mem)) (hv : setRow cs o vs.toList = cs' := by first | with_reducible exact set_limbs _ _ | with_reducible exact set_limbsR _ _ | with_reducible exact set_limbsQ _ _ | with_reducible exact set_bits _ _ _ _ | with_reducible exact set_bitsR _ _ _ _ | with_reducible exact set_tri _ _ _ _ _ _ _ _ _ _ _ _ _ _ _ _ _ _ _ _ _ _ _ _ | with_reducible exact set_pw _ _ _ _ _ _ _ _ | with_reducible exact set_pwQ _ _ _ _ _ _ _ _ | with_reducible exact set_pwR _ _ _ _ _ _ _ _ | with_reducible exact set_ex _ _ _ _ _ _ _ _ | with_reducible exact set_fd _ _ _ _ _ _ _ _ | with_reducible exact set_parts_s _ _ _ _ _ | with_reducible exact set_rough_s _ _ _ _ _ | with_reducible exact set_parts_f _ _ _ _ _ | with_reducible exact set_v8 _ _ _ _ _ _ _ _ _ _ _ _ _ _ _ _ | with_reducible exact set_t0 _ _ _ _ _ _ _ _ _ _ _ _ _ _ _ _ | with_reducible exact set_t1 _ _ _ _ _ _ _ _ _ _ _ _ _ _ _ _ | with_reducible exact set_t2 _ _ _ _ _ _ _ _ _ _ _ _ _ _ _ _ | with_reducible exact set_rw _ _ _ _ _ _ _ _ | with_reducible exact set_rw2 _ _ _ _ _ _ _ _ | with_reducible exact set_zero6 _ rfl | with_reducible exact set_all _ _ rfl) (hs : vs.size = n := by rfl) (h1 : vs.all (·.oneCell') = true := by exact one_of rfl) (hn : o + vs.size ≤ cs.size := by first | exact ble_le rfl | (change _ + 1 ≤ 12; omega) | (change _ + 1 ≤ 6; omega) | (rw [fillTo_size]; change _ + 1 ≤ 6; omega) | (rw [rowB_size]; change _ + 1 ≤ _; omega)) (hi : Upd g T cs cs' L L' := by repeat (first | with_reducible exact Upd.head _ | apply Upd.tail)) : wpList P ops Q (op :: rest) a w := H.st hw R ho hx hy hi hv hs h1 hn h
theorem Own.xt (H : Own w0 w L) (h : ∀ w', Own w0 w' L' → wpList P ops Q rest (a.put op.dst undef) w') (hw : Region.wanted op (yielded ops a.tmps) = true := by exact rfl) (ho : op.op = .store t x y := by exact rfl) (hx : a.eval x = .pointer (some ⟨g, o, none⟩) := by exact rfl) (R : IsOne P t := by first | with_reducible exact oU | with_reducible exact oI | with_reducible exact oT | with_reducible exact oC | with_reducible exact oNat | with_reducible exact oY | with_reducible exact oF | with_reducible exact oS | with_reducible exact oK | with_reducible exact oX) (hy : (a.eval y).cells = vs := by first | exact cells_int _ _ | exact cells_bool _ | exact cells_str _ | exact cells_ptr _) (hm : (g, T, cs) ∈ L := by repeat (first | with_reducible exact List.mem_cons_self | apply List.mem_cons_of_mem)) (hv : setRow cs o vs.toList = cs' := by first | with_reducible exact set_10 _ _ | with_reducible exact set_20 _ _ _ | with_reducible exact set_21 _ _ _ | with_reducible exact set_parts_x _ _ _ _ _ | with_reducible exact set_rough_n _ _ _ _ _) (hs : vs.size = 1 := by rfl) (h1 : vs.all (·.oneCell') = true := by exact one_of rfl) (hn : o + vs.size ≤ cs.size := by first | exact ble_le rfl | (change _ + 1 ≤ 12; omega) | (change _ + 1 ≤ 6; omega) | (rw [fillTo_size]; change _ + 1 ≤ 6; omega) | (rw [rowB_size]; change _ + 1 ≤ _; omega)) (hi : Upd g T cs cs' L L' := by repeat (first | with_reducible exact Upd.head _ | apply Upd.tail)) : wpList P ops Q (op :: rest) a w := H.st1 hw R ho hx hy hi hv hs h1 hn h
theorem Own.ya (H : Own w0 w L) (h : ∀ g w', Own w0 w' ((g, t, z) :: L) → K (a.put op.dst (.pointer (some ⟨g, 0, none⟩))) w') (ho : op.op = .alloc t := by exact rfl) (R : IsRow P t n z := by first | with_reducible exact rW | with_reducible exact rB | with_reducible exact rP | with_reducible exact rR | with_reducible exact rQ | with_reducible exact rV | with_reducible exact rEx | with_reducible exact rFd | with_reducible exact rD | with_reducible exact rE) : op.wp P a w K Q := H.oal R ho h
theorem Own.yl (H : Own w0 w L) (h : K (a.put op.dst (.agg r)) w) (ho : op.op = .load t x := by exact rfl) (hx : a.eval x = .pointer (some ⟨g, o, none⟩) := by exact rfl) (R : IsRow P t n z := by first | with_reducible exact rW | with_reducible exact rB | with_reducible exact rP | with_reducible exact rR | with_reducible exact rQ | with_reducible exact rV | with_reducible exact rEx | with_reducible exact rFd | with_reducible exact rD | with_reducible exact rE) (hi : (g, T, cs) ∈ L := by repeat (first | with_reducible exact List.mem_cons_self | apply List.mem_cons_of_mem)) (hv : cs.extract o (o + r.size) = r ∧ r.size = n := by first | exact ⟨by with_reducible exact ext_limbs _, by rfl⟩ | exact ⟨by with_reducible exact ext_2 _ _, by rfl⟩ | exact ⟨by with_reducible exact ext_parts _ _ _ _, by rfl⟩ | exact ⟨by with_reducible exact ext_rough _ _ _ _, by rfl⟩ | exact ⟨by with_reducible exact ext_ex _ _ _ _, by rfl⟩ | exact ⟨by with_reducible exact ext_fd _ _ _ _, by rfl⟩ | exact ⟨by with_reducible exact ext_parts_s _ _ _ _, by rfl⟩ | exact ⟨by with_reducible exact ext_rough_s _ _ _ _, by rfl⟩ | exact ⟨by with_reducible exact ext_parts_f _ _ _ _, by rfl⟩ | exact ⟨by with_reducible exact ext_t0 _ _ _ _ _ _ _ _ _ _ _ _, by rfl⟩ | exact ⟨by with_reducible exact ext_t1 _ _ _ _ _ _ _ _ _ _ _ _, by rfl⟩ | exact ⟨by with_reducible exact ext_t2 _ _ _ _ _ _ _ _ _ _ _ _, by rfl⟩ | exact ⟨by with_reducible exact ext_12 _, by rfl⟩ | exact ⟨by with_reducible exact ext_tri _ _ _ _ _ _ _ _ _ _ _ _, by rfl⟩ | exact ⟨by with_reducible exact ext_v8 _ _ _ _ _ _ _ _, by rfl⟩) : op.wp P a w K Q := H.old R ho hx hi hv.1 hv.2 h
theorem Own.ym (H : Own w0 w L) (h : K (a.put op.dst v) w) (ho : op.op = .load t x := by exact rfl) (hx : a.eval x = .pointer (some ⟨g, o, none⟩) := by exact rfl) (R : IsOne P t := by first | with_reducible exact oU | with_reducible exact oI | with_reducible exact oT | with_reducible exact oC | with_reducible exact oNat | with_reducible exact oY | with_reducible exact oF | with_reducible exact oS | with_reducible exact oK | with_reducible exact oX) (hi : (g, T, cs) ∈ L := by repeat (first | with_reducible exact List.mem_cons_self | apply List.mem_cons_of_mem)) (hv : cs[o]? = some v := by first | with_reducible exact get_10 _ | with_reducible exact get_20 _ _ | with_reducible exact get_21 _ _ | with_reducible exact limbs_o0 _ | with_reducible exact limbs_o1 _ | with_reducible exact limbs_o2 _ | with_reducible exact limbs_o3 _ | with_reducible exact limbs_o4 _ | with_reducible exact limbs_o5 _ | with_reducible exact get_rough7 _ _ _ _ | with_reducible exact get_parts7 _ _ _ _ | with_reducible exact get_rough0 _ _ _ _ | with_reducible exact get_rough8 _ _ _ _ | with_reducible exact get_parts0 _ _ _ _ | with_reducible exact get_ex0 _ _ _ _ | with_reducible exact get_ex1 _ _ _ _ | with_reducible exact get_ex2 _ _ _ _ | with_reducible exact get_ex3 _ _ _ _ | with_reducible exact get_fd1 _ _ _ _ | with_reducible exact get_fd3 _ _ _ _) : op.wp P a w K Q := H.old1 R ho hx hi hv h
theorem Own.ys (H : Own w0 w L) (h : ∀ w', Own w0 w' L' → K (a.put op.dst undef) w') (ho : op.op = .store t x y := by exact rfl) (hx : a.eval x = .pointer (some ⟨g, o, none⟩) := by exact rfl) (R : IsRow P t n z := by first | with_reducible exact rW | with_reducible exact rB | with_reducible exact rP | with_reducible exact rR | with_reducible exact rQ | with_reducible exact rV | with_reducible exact rEx | with_reducible exact rFd | with_reducible exact rD | with_reducible exact rE) (hy : (a.eval y).cells = vs := by exact cells_agg _) (hm : (g, T, cs) ∈ L := by repeat (first | with_reducible exact List.mem_cons_self | apply List.mem_cons_of_mem)) (hv : setRow cs o vs.toList = cs' := by first | with_reducible exact set_limbs _ _ | with_reducible exact set_limbsR _ _ | with_reducible exact set_limbsQ _ _ | with_reducible exact set_bits _ _ _ _ | with_reducible exact set_bitsR _ _ _ _ | with_reducible exact set_tri _ _ _ _ _ _ _ _ _ _ _ _ _ _ _ _ _ _ _ _ _ _ _ _ | with_reducible exact set_pw _ _ _ _ _ _ _ _ | with_reducible exact set_pwQ _ _ _ _ _ _ _ _ | with_reducible exact set_pwR _ _ _ _ _ _ _ _ | with_reducible exact set_ex _ _ _ _ _ _ _ _ | with_reducible exact set_fd _ _ _ _ _ _ _ _ | with_reducible exact set_parts_s _ _ _ _ _ | with_reducible exact set_rough_s _ _ _ _ _ | with_reducible exact set_parts_f _ _ _ _ _ | with_reducible exact set_v8 _ _ _ _ _ _ _ _ _ _ _ _ _ _ _ _ | with_reducible exact set_t0 _ _ _ _ _ _ _ _ _ _ _ _ _ _ _ _ | with_reducible exact set_t1 _ _ _ _ _ _ _ _ _ _ _ _ _ _ _ _ | with_reducible exact set_t2 _ _ _ _ _ _ _ _ _ _ _ _ _ _ _ _ | with_reducible exact set_rw _ _ _ _ _ _ _ _ | with_reducible exact set_rw2 _ _ _ _ _ _ _ _ | with_reducible exact set_zero6 _ rfl | with_reducible exact set_all _ _ rfl) (hs : vs.size = n := by rfl) (h1 : vs.all (·.oneCell') = true := by exact one_of rfl) (hn : o + vs.size ≤ cs.size := by first | exact ble_le rfl | (change _ + 1 ≤ 12; omega) | (change _ + 1 ≤ 6; omega) | (rw [fillTo_size]; change _ + 1 ≤ 6; omega) | (rw [rowB_size]; change _ + 1 ≤ _; omega)) (hi : Upd g T cs cs' L L' := by repeat (first | with_reducible exact Upd.head _ | apply Upd.tail)) : op.wp P a w K Q := H.ost R ho hx hy hi hv hs h1 hn h
theorem Own.yt (H : Own w0 w L) (h : ∀ w', Own w0 w' L' → K (a.put op.dst undef) w') (ho : op.op = .store t x y := by exact rfl) (hx : a.eval x = .pointer (some ⟨g, o, none⟩) := by exact rfl) (R : IsOne P t := by first | with_reducible exact oU | with_reducible exact oI | with_reducible exact oT | with_reducible exact oC | with_reducible exact oNat | with_reducible exact oY | with_reducible exact oF | with_reducible exact oS | with_reducible exact oK | with_reducible exact oX) (hy : (a.eval y).cells = vs := by first | exact cells_int _ _ | exact cells_bool _ | exact cells_str _ | exact cells_ptr _) (hm : (g, T, cs) ∈ L := by repeat (first | with_reducible exact List.mem_cons_self | apply List.mem_cons_of_mem)) (hv : setRow cs o vs.toList = cs' := by first | with_reducible exact set_10 _ _ | with_reducible exact set_20 _ _ _ | with_reducible exact set_21 _ _ _ | with_reducible exact set_parts_x _ _ _ _ _ | with_reducible exact set_rough_n _ _ _ _ _) (hs : vs.size = 1 := by rfl) (h1 : vs.all (·.oneCell') = true := by exact one_of rfl) (hn : o + vs.size ≤ cs.size := by first | exact ble_le rfl | (change _ + 1 ≤ 12; omega) | (change _ + 1 ≤ 6; omega) | (rw [fillTo_size]; change _ + 1 ≤ 6; omega) | (rw [rowB_size]; change _ + 1 ≤ _; omega)) (hi : Upd g T cs cs' L L' := by repeat (first | with_reducible exact Upd.head _ | apply Upd.tail)) : op.wp P a w K Q := H.ost1 R ho hx hy hi hv hs h1 hn h
theorem Own.zr (H : Own w0 w L) (i : Nat) (h : wpAnyH P md ops Q (fun w' => Own w0 w' L') fuel (listed.setIfInBounds i true) (a.put op.dst v) w) (hL : List.Sublist L' L := by repeat (first | with_reducible exact List.Sublist.refl _ | with_reducible apply List.Sublist.cons_cons | with_reducible apply List.Sublist.cons)) (hi' : ops[i]? = some op := by exact rfl) (hs' : Region.noSelect ops = true := by kernel_rfl) (hf : Region.free md ops listed i = true := by kernel_rfl) (hr : (Region.ready md ops listed).contains i = true := by kernel_rfl) (hQ : ∀ v c a w, Q (.panic c) (a.put op.dst v) w → Q (.panic c) a w := by first | exact fun _ _ _ _ h => h | exact fun _ _ _ _ h => by cases h.1) (hw : Region.wanted op (yielded ops a.tmps) = true := by exact rfl) (hv : ∀ w, (execOp a.eval op).run P w = .ok (.value v) w := by intro w; go_simp; (try with_reducible rfl)) : wpAnyH P md ops Q (fun w' => Own w0 w' L') (fuel + 1) listed a w := H.takeRun hL i hi' hs' hf hr hQ hw hv h
theorem Own.zl (H : Own w0 w L) (i : Nat) (h : wpAnyH P md ops Q (fun w' => Own w0 w' L') fuel (listed.setIfInBounds i true) (a.put op.dst (.agg r)) w) (hL : List.Sublist L' L := by repeat (first | with_reducible exact List.Sublist.refl _ | with_reducible apply List.Sublist.cons_cons | with_reducible apply List.Sublist.cons)) (hi' : ops[i]? = some op := by exact rfl) (hs' : Region.noSelect ops = true := by kernel_rfl) (hf : Region.free md ops listed i = true := by kernel_rfl) (hr : (Region.ready md ops listed).contains i = true := by kernel_rfl) (hQ : ∀ v c a w, Q (.panic c) (a.put op.dst v) w → Q (.panic c) a w := by first | exact fun _ _ _ _ h => h | exact fun _ _ _ _ h => by cases h.1) (hw : Region.wanted op (yielded ops a.tmps) = true := by exact rfl) (ho : op.op = .load t x := by exact rfl) (hx : a.eval x = .pointer (some ⟨g, o, none⟩) := by exact rfl) (R : IsRow P t n z := by first | with_reducible exact rW | with_reducible exact rB | with_reducible exact rP | with_reducible exact rR | with_reducible exact rQ | with_reducible exact rV | with_reducible exact rEx | with_reducible exact rFd | with_reducible exact rD | with_reducible exact rE) (hi : (g, T, cs) ∈ L' := by repeat (first | with_reducible exact List.mem_cons_self | apply List.mem_cons_of_mem)) (hv : cs.extract o (o + r.size) = r ∧ r.size = n := by first | exact ⟨by with_reducible exact ext_limbs _, by rfl⟩ | exact ⟨by with_reducible exact ext_2 _ _, by rfl⟩ | exact ⟨by with_reducible exact ext_parts _ _ _ _, by rfl⟩ | exact ⟨by with_reducible exact ext_rough _ _ _ _, by rfl⟩ | exact ⟨by with_reducible exact ext_ex _ _ _ _, by rfl⟩ | exact ⟨by with_reducible exact ext_fd _ _ _ _, by rfl⟩ | exact ⟨by with_reducible exact ext_parts_s _ _ _ _, by rfl⟩ | exact ⟨by with_reducible exact ext_rough_s _ _ _ _, by rfl⟩ | exact ⟨by with_reducible exact ext_parts_f _ _ _ _, by rfl⟩ | exact ⟨by with_reducible exact ext_t0 _ _ _ _ _ _ _ _ _ _ _ _, by rfl⟩ | exact ⟨by with_reducible exact ext_t1 _ _ _ _ _ _ _ _ _ _ _ _, by rfl⟩ | exact ⟨by with_reducible exact ext_t2 _ _ _ _ _ _ _ _ _ _ _ _, by rfl⟩ | exact ⟨by with_reducible exact ext_12 _, by rfl⟩ | exact ⟨by with_reducible exact ext_tri _ _ _ _ _ _ _ _ _ _ _ _, by rfl⟩ | exact ⟨by with_reducible exact ext_v8 _ _ _ _ _ _ _ _, by rfl⟩) : wpAnyH P md ops Q (fun w' => Own w0 w' L') (fuel + 1) listed a w := H.tk hL i hi' hs' hf hr hQ hw R ho hx hi hv.1 hv.2 h
theorem Own.zm (H : Own w0 w L) (i : Nat) (h : wpAnyH P md ops Q (fun w' => Own w0 w' L') fuel (listed.setIfInBounds i true) (a.put op.dst v) w) (hL : List.Sublist L' L := by repeat (first | with_reducible exact List.Sublist.refl _ | with_reducible apply List.Sublist.cons_cons | with_reducible apply List.Sublist.cons)) (hi' : ops[i]? = some op := by exact rfl) (hs' : Region.noSelect ops = true := by kernel_rfl) (hf : Region.free md ops listed i = true := by kernel_rfl) (hr : (Region.ready md ops listed).contains i = true := by kernel_rfl) (hQ : ∀ v c a w, Q (.panic c) (a.put op.dst v) w → Q (.panic c) a w := by first | exact fun _ _ _ _ h => h | exact fun _ _ _ _ h => by cases h.1) (hw : Region.wanted op (yielded ops a.tmps) = true := by exact rfl) (ho : op.op = .load t x := by exact rfl) (hx : a.eval x = .pointer (some ⟨g, o, none⟩) := by exact rfl) (R : IsOne P t := by first | with_reducible exact oU | with_reducible exact oI | with_reducible exact oT | with_reducible exact oC | with_reducible exact oNat | with_reducible exact oY | with_reducible exact oF | with_reducible exact oS | with_reducible exact oK | with_reducible exact oX) (hi : (g, T, cs) ∈ L' := by repeat (first | with_reducible exact List.mem_cons_self | apply List.mem_cons_of_mem)) (hv : cs[o]? = some v := by first | with_reducible exact get_10 _ | with_reducible exact get_20 _ _ | with_reducible exact get_21 _ _ | with_reducible exact limbs_o0 _ | with_reducible exact limbs_o1 _ | with_reducible exact limbs_o2 _ | with_reducible exact limbs_o3 _ | with_reducible exact limbs_o4 _ | with_reducible exact limbs_o5 _ | with_reducible exact get_rough7 _ _ _ _ | with_reducible exact get_parts7 _ _ _ _ | with_reducible exact get_rough0 _ _ _ _ | with_reducible exact get_rough8 _ _ _ _ | with_reducible exact get_parts0 _ _ _ _ | with_reducible exact get_ex0 _ _ _ _ | with_reducible exact get_ex1 _ _ _ _ | with_reducible exact get_ex2 _ _ _ _ | with_reducible exact get_ex3 _ _ _ _ | with_reducible exact get_fd1 _ _ _ _ | with_reducible exact get_fd3 _ _ _ _) : wpAnyH P md ops Q (fun w' => Own w0 w' L') (fuel + 1) listed a w := H.tk1 hL i hi' hs' hf hr hQ hw R ho hx hi hv h
theorem Own.nx {X : Prop} (H : Own w0 w L) (h : X) (hL : List.Sublist L' L := by repeat (first | with_reducible exact List.Sublist.refl _ | with_reducible apply List.Sublist.cons_cons | with_reducible apply List.Sublist.cons)) : Own w0 w L' ∧ X := ⟨H.sub hL, h⟩
theorem held1 (i : Nat) (h : op.wp P a w (fun a' w' => S w' ∧ wpAnyH P md ops Q S fuel (listed.setIfInBounds i true) a' w') Q) (hr : Region.ready md ops listed = [i] := by kernel_rfl) (ho : ops[i]? = some op := by exact rfl) (hw : Region.wanted op (yielded ops a.tmps) = true := by exact rfl) : wpAnyH P md ops Q S (fuel + 1) listed a w := held_one hr ho hw h
theorem held2 (i k : Nat) (h : op.wp P a w (fun a' w' => S w' ∧ wpAnyH P md ops Q S fuel (listed.setIfInBounds i true) a' w') Q) (h2 : op2.wp P a w (fun a' w' => S w' ∧ wpAnyH P md ops Q S fuel (listed.setIfInBounds k true) a' w') Q) (hr : Region.ready md ops listed = [i, k] := by kernel_rfl) (ho : ops[i]? = some op := by exact rfl) (hw : Region.wanted op (yielded ops a.tmps) = true := by exact rfl) (ho2 : ops[k]? = some op2 := by exact rfl) (hw2 : Region.wanted op2 (yielded ops a.tmps) = true := by exact rfl) : wpAnyH P md ops Q S (fuel + 1) listed a w := held_two hr ho hw ho2 hw2 h h2
end
open Go.RowKit
theorem rW : IsRow Tryz.prog 60 6 (limbs 0) := ⟨⟨_, Tryz.underlying60, rfl⟩, tW_s, tW_z⟩
theorem rB : IsRow Tryz.prog 27 2 #[.int .u64 0, .int .u64 0] := ⟨⟨_, Tryz.underlying27, rfl⟩, tB_s, tB_z⟩
theorem rP : IsRow Tryz.prog 100 14 (parts 0 0 0 0) := ⟨⟨_, Tryz.underlying100, rfl⟩, tP_s, tP_z⟩
theorem rR : IsRow Tryz.prog 83 9 (rough false 0 0 false) := ⟨⟨_, Tryz.underlying83, rfl⟩, tR_s, tR_z⟩
theorem oU : IsOne Tryz.prog 25 := ⟨⟨_, Tryz.underlying25, rfl⟩, tu_s⟩
theorem oI : IsOne Tryz.prog 3 := ⟨⟨_, Tryz.underlying3, rfl⟩, ti_s⟩
theorem oT : IsOne Tryz.prog 4 := ⟨⟨_, Tryz.underlying4, rfl⟩, tb_s⟩
theorem oC : IsOne Tryz.prog 65 := ⟨⟨_, Tryz.underlying65, rfl⟩, tc_s⟩
theorem fields_mk (P K t e : Nat) (neg : Bool) (ht : t < 2 ^ P) (he : e < 2 ^ K) :
    (e * 2 ^ P + t + cond neg (2 ^ (P + K)) 0) % 2 ^ P = t ∧ (e * 2 ^ P + t + cond neg (2 ^ (P + K)) 0) / 2 ^ P % 2 ^ K = e ∧
    (e * 2 ^ P + t + cond neg (2 ^ (P + K)) 0).testBit (P + K) = neg ∧ e * 2 ^ P + t + cond neg (2 ^ (P + K)) 0 < 2 ^ (P + K + 1) := by
  have hp := two_pos P
  have hk := two_pos K
  have e1 : e * 2 ^ P + t + cond neg (2 ^ (P + K)) 0 = 2 ^ P * (e + cond neg 1 0 * 2 ^ K) + t := by
    rw [Nat.mul_add, Nat.mul_comm e, Nat.pow_add]; cases neg <;> simp <;> omega
  have hdiv : (2 ^ P * (e + cond neg 1 0 * 2 ^ K) + t) / 2 ^ P = e + cond neg 1 0 * 2 ^ K := by
    rw [Nat.mul_add_div hp, Nat.div_eq_of_lt ht, Nat.add_zero]
  have hlt : 2 ^ P * (e + cond neg 1 0 * 2 ^ K) + t < 2 ^ P * 2 ^ (K + 1) := by
    have : e + cond neg 1 0 * 2 ^ K + 1 ≤ 2 ^ (K + 1) := by rw [Nat.pow_succ]; cases neg <;> simp <;> omega
    have := Nat.mul_le_mul_left (2 ^ P) this
    rw [Nat.mul_add _ _ 1] at this; omega
  rw [e1]
  refine ⟨?_, ?_, ?_, ?_⟩
  · rw [Nat.mul_add_mod]; exact Nat.mod_eq_of_lt ht
  · rw [hdiv, Nat.add_mul_mod_self_right]; exact Nat.mod_eq_of_lt he
  · rw [Nat.testBit_eq_decide_div_mod_eq, Nat.pow_add, ← Nat.div_div_eq_div_mul, hdiv, Nat.add_mul_div_right _ _ hk, Nat.div_eq_of_lt he]
    cases neg <;> rfl
  · rw [Nat.add_assoc, Nat.pow_add]; exact hlt
theorem fields_of (P K b : Nat) (h : b < 2 ^ (P + K + 1)) : b / 2 ^ P % 2 ^ K * 2 ^ P + b % 2 ^ P + cond (b.testBit (P + K)) (2 ^ (P + K)) 0 = b := by
  have h1 := Nat.div_add_mod b (2 ^ P)
  have h2 := Nat.div_add_mod (b / 2 ^ P) (2 ^ K)
  have hq : b / 2 ^ P / 2 ^ K < 2 := by
    rw [Nat.div_div_eq_div_mul, ← Nat.pow_add, Nat.div_lt_iff_lt_mul (two_pos _)]
    rw [Nat.pow_succ] at h; omega
  rw [Nat.testBit_eq_decide_div_mod_eq, Nat.pow_add 2 P K, ← Nat.div_div_eq_div_mul]
  generalize b / 2 ^ P / 2 ^ K = q at *
  generalize b / 2 ^ P % 2 ^ K = e at *
  have : q = 0 ∨ q = 1 := by omega
  rcases this with rfl | rfl
  · rw [Nat.mul_zero] at h2
    simp only [Nat.zero_mod, decide_false, cond, Nat.zero_ne_one]
    rw [← h2, Nat.mul_comm, Nat.zero_add] at h1; omega
  · rw [Nat.mul_one] at h2
    rw [← h2, Nat.mul_add, Nat.mul_comm (2 ^ P) e] at h1
    simp; omega
theorem formK (f : Nat) (h : f < 4) : wF f = pF f - 1 + (wF f - pF f) + 1 ∧ wF f - 1 = pF f - 1 + (wF f - pF f) ∧ 2 ^ (wF f - pF f) = 2 * eF f + 2 ∧ 15 ≤ eF f ∧ eF f ≤ 16383 ∧ eminI f = 1 - (eF f : Int) ∧ 11 ≤ pF f ∧ pF f ≤ 113 := by
  have : f = 0 ∨ f = 1 ∨ f = 2 ∨ f = 3 := by omega
  rcases this with rfl | rfl | rfl | rfl <;> decide
theorem fits_iff (f b : Nat) : fitsB f b = true ↔ f < 4 ∧ b < 2 ^ wF f := by unfold fitsB; simp
def mkN (f : Nat) (neg : Bool) (e t : Nat) : Nat := e * 2 ^ (pF f - 1) + t + signN f neg
theorem mkN_fields (f : Nat) (hf : f < 4) (neg : Bool) (e t : Nat) (ht : t < 2 ^ (pF f - 1)) (he : e < 2 * eF f + 2) :
    mkN f neg e t % 2 ^ (pF f - 1) = t ∧ expN f (mkN f neg e t) = e ∧ (mkN f neg e t).testBit (wF f - 1) = neg ∧ fitsB f (mkN f neg e t) = true := by
  obtain ⟨h1, h2, h3, -⟩ := formK f hf
  have := fields_mk (pF f - 1) (wF f - pF f) t e neg ht (by rw [h3]; exact he)
  rw [← h2] at this
  unfold expN
  refine ⟨this.1, this.2.1, this.2.2.1, (fits_iff _ _).2 ⟨hf, ?_⟩⟩
  have h4 := this.2.2.2
  rw [h2, ← h1] at h4
  unfold mkN signN
  rw [h2]; exact h4
theorem mkN_of (f b : Nat) (h : fitsB f b = true) : mkN f (b.testBit (wF f - 1)) (expN f b) (b % 2 ^ (pF f - 1)) = b := by
  obtain ⟨hf, hb⟩ := (fits_iff f b).1 h
  obtain ⟨h1, h2, -⟩ := formK f hf
  have := fields_of (pF f - 1) (wF f - pF f) b (by rw [← h1]; exact hb)
  unfold mkN expN signN
  rw [h2]; exact this
theorem expN_lt (f b : Nat) (hf : f < 4) : expN f b < 2 * eF f + 2 := by
  obtain ⟨-, -, h3, -⟩ := formK f hf
  rw [← h3]; exact Nat.mod_lt _ (two_pos _)
def sigN (f b : Nat) : Nat := if clsN f b = 1 ∨ clsN f b = 6 then b % 2 ^ (pF f - 1) + 2 ^ (pF f - 1) else if clsN f b = 2 ∨ clsN f b = 5 then b % 2 ^ (pF f - 1) else 0
def xpN (f b : Nat) : Int := if clsN f b = 1 ∨ clsN f b = 6 then (expN f b : Int) - 1 + eminI f - (pF f : Nat) + 1 else if clsN f b = 2 ∨ clsN f b = 5 then (expN f b : Int) + eminI f - (pF f : Nat) + 1 else 0
def negN (f b : Nat) : Bool := b.testBit (wF f - 1)
theorem cls_cases (f b : Nat) :
    (expN f b = 2 * eF f + 1 ∧ b % 2 ^ (pF f - 1) = 0 ∧ clsN f b = cond (negN f b) 0 7) ∨
    (expN f b = 2 * eF f + 1 ∧ b % 2 ^ (pF f - 1) ≠ 0 ∧ clsN f b = cond ((b % 2 ^ (pF f - 1)).testBit (pF f - 2)) 9 8) ∨
    (expN f b = 0 ∧ b % 2 ^ (pF f - 1) = 0 ∧ clsN f b = cond (negN f b) 3 4) ∨
    (expN f b = 0 ∧ b % 2 ^ (pF f - 1) ≠ 0 ∧ clsN f b = cond (negN f b) 2 5) ∨
    (expN f b ≠ 0 ∧ expN f b ≠ 2 * eF f + 1 ∧ clsN f b = cond (negN f b) 1 6) := by
  unfold clsN negN
  by_cases h1 : expN f b = 2 * eF f + 1
  · by_cases h2 : b % 2 ^ (pF f - 1) = 0
    · left; rw [if_pos h1, if_pos h2]; exact ⟨h1, h2, rfl⟩
    · right; left; rw [if_pos h1, if_neg h2]; exact ⟨h1, h2, rfl⟩
  · by_cases h3 : expN f b = 0
    · by_cases h2 : b % 2 ^ (pF f - 1) = 0
      · right; right; left; rw [if_neg h1, if_pos h3, if_pos h2]; exact ⟨h3, h2, rfl⟩
      · right; right; right; left; rw [if_neg h1, if_pos h3, if_neg h2]; exact ⟨h3, h2, rfl⟩
    · right; right; right; right; rw [if_neg h1, if_neg h3]; exact ⟨h3, h1, rfl⟩
theorem cls_le (f b : Nat) : clsN f b ≤ 9 := by
  rcases cls_cases f b with ⟨_, _, h⟩ | ⟨_, _, h⟩ | ⟨_, _, h⟩ | ⟨_, _, h⟩ | ⟨_, _, h⟩ <;> rw [h]
  · cases negN f b <;> decide
  · cases (b % 2 ^ (pF f - 1)).testBit (pF f - 2) <;> decide
  · cases negN f b <;> decide
  · cases negN f b <;> decide
  · cases negN f b <;> decide
structure Can (f c : Nat) (q : Int) : Prop where
  pos : c ≠ 0
  lt : c < 2 ^ pF f
  ge : eminI f - pF f + 1 ≤ q
  le : q ≤ (eF f : Int) - pF f + 1
  norm : 2 ^ (pF f - 1) ≤ c ∨ q = eminI f - pF f + 1
def Fin0 (f b : Nat) : Prop := clsN f b = 1 ∨ clsN f b = 6 ∨ clsN f b = 2 ∨ clsN f b = 5
theorem pow_pred (f : Nat) (hf : f < 4) : 2 ^ pF f = 2 ^ (pF f - 1) + 2 ^ (pF f - 1) := by
  obtain ⟨-, -, -, -, -, -, h, -⟩ := formK f hf
  rw [show pF f = (pF f - 1) + 1 by omega, Nat.pow_succ]; simp; omega
theorem can_of (f b : Nat) (h : fitsB f b = true) (hc : Fin0 f b) : Can f (sigN f b) (xpN f b) ∧ encN f (negN f b) (sigN f b) (xpN f b) = b := by
  obtain ⟨hf, hb⟩ := (fits_iff f b).1 h
  obtain ⟨h1, h2, h3, h4, h5, h6, h7, h8⟩ := formK f hf
  have hp := pow_pred f hf
  have ht := Nat.mod_lt b (two_pos (pF f - 1))
  have hm := mkN_of f b h
  have hx := expN_lt f b hf
  unfold Fin0 at hc
  rcases cls_cases f b with ⟨e1, e2, e3⟩ | ⟨e1, e2, e3⟩ | ⟨e1, e2, e3⟩ | ⟨e1, e2, e3⟩ | ⟨e1, e2, e3⟩
  · exfalso; rw [e3] at hc; revert hc; cases negN f b <;> decide
  · exfalso; rw [e3] at hc; revert hc; cases (b % 2 ^ (pF f - 1)).testBit (pF f - 2) <;> decide
  · exfalso; rw [e3] at hc; revert hc; cases negN f b <;> decide
  · have c1 : ¬ (clsN f b = 1 ∨ clsN f b = 6) := by rw [e3]; cases negN f b <;> decide
    have c2 : clsN f b = 2 ∨ clsN f b = 5 := by rw [e3]; cases negN f b <;> decide
    unfold sigN xpN
    rw [if_neg c1, if_pos c2, if_neg c1, if_pos c2, e1]
    refine ⟨⟨e2, by omega, by omega, by omega, Or.inr (by omega)⟩, ?_⟩
    unfold mkN at hm
    unfold encN negN
    rw [e1, Nat.zero_mul, Nat.zero_add] at hm
    rw [show (((0 : Nat) : Int) + eminI f - (pF f : Nat) + 1 - eminI f + (pF f : Nat) - 1).toNat = 0 by omega, Nat.zero_mul, Nat.zero_add]
    exact hm
  · have c1 : clsN f b = 1 ∨ clsN f b = 6 := by rw [e3]; cases negN f b <;> decide
    unfold sigN xpN
    rw [if_pos c1, if_pos c1]
    refine ⟨⟨by have := two_pos (pF f - 1); omega, by omega, by omega, by omega, Or.inl (by omega)⟩, ?_⟩
    unfold mkN at hm
    unfold encN negN
    rw [show ((expN f b : Int) - 1 + eminI f - (pF f : Nat) + 1 - eminI f + (pF f : Nat) - 1).toNat = expN f b - 1 by omega]
    have e4 : expN f b * 2 ^ (pF f - 1) = (expN f b - 1) * 2 ^ (pF f - 1) + 2 ^ (pF f - 1) := by
      obtain ⟨k, hk⟩ : ∃ k, expN f b = k + 1 := ⟨expN f b - 1, by omega⟩
      rw [hk, Nat.add_sub_cancel, Nat.add_mul]; omega
    omega
theorem pack_can (f m c : Nat) (q : Int) (neg : Bool) (hf : f < 4) (h : Can f c q) : packB f m neg c q false = (encN f neg c q, 0) := by
  obtain ⟨h1, h2, h3, h4, h5, h6, h7, h8⟩ := formK f hf
  have hlt := h.lt
  have hge := h.ge
  have hle := h.le
  have hpos := h.pos
  have l1 := (lenN_le c (pF f)).2 hlt
  have l2 := lenN_pos c hpos
  have hat : atN f (lenN c - 1 + q) = q := by
    unfold atN
    rcases h.norm with hn | hn
    · have : lenN c = pF f := lenN_unique c (pF f) hn hlt (by omega)
      omega
    · rcases Nat.lt_or_ge c (2 ^ (pF f - 1)) with hc | hc
      · have := (lenN_le c (pF f - 1)).2 hc
        omega
      · have : lenN c = pF f := lenN_unique c (pF f) hc hlt (by omega)
        omega
  have hg : gridN m neg c q false q = (c, true) := by
    unfold gridN
    rw [if_pos (by omega), show (q - q).toNat = 0 by omega, Nat.pow_zero, Nat.mul_one]; rfl
  unfold packB
  rw [hat, hg, if_neg (by omega), if_neg (by simp only []; omega)]
  rfl
theorem pack_exact (f m c s : Nat) (q e : Int) (neg : Bool) (hf : f < 4) (h : Can f c q) (hs : (e ≤ q ∧ s = c * 2 ^ (q - e).toNat) ∨ (q ≤ e ∧ c = s * 2 ^ (e - q).toNat)) :
    packB f m neg s e false = (encN f neg c q, 0) := by
  rw [← pack_can f m c q neg hf h]
  rcases hs with ⟨hle, rfl⟩ | ⟨hle, hs⟩
  · symm
    exact pack_finer ⟨hle, by rw [Nat.mul_div_cancel _ (two_pos _)], by rw [Nat.mul_mod_left]; rfl⟩ f m neg h.pos (fun h => by cases h)
  · have hpos := h.pos
    refine pack_finer ⟨hle, by rw [hs, Nat.mul_div_cancel _ (two_pos _)], by rw [hs, Nat.mul_mod_left]; rfl⟩ f m neg ?_ (fun h => by cases h)
    intro h0; rw [h0, Nat.zero_mul] at hs; exact hpos hs
open Go.RowKit
theorem limb0 (b : Nat) : limb b 0 = ((b % 18446744073709551616 : Nat) : Int) := by unfold limb limbN; rw [Nat.mul_zero, Nat.pow_zero, Nat.div_one]
theorem limb1 (b : Nat) : limb b 1 = ((b / 18446744073709551616 % 18446744073709551616 : Nat) : Int) := rfl
theorem pair_bits {a b : Int} {n : Nat} (h1 : a = limb n 1) (h0 : b = limb n 0) : Ending.returned (.agg #[.int .u64 a, .int .u64 b]) = .returned (BV n) := by rw [h1, h0]
theorem wrap_shl (x n : Nat) : IntKind.u64.wrap ((x : Int) * 2 ^ n) = ((x * 2 ^ n % 18446744073709551616 : Nat) : Int) := by
  rw [IntKind.wrap_u64, show (2 : Int) ^ n = ((2 ^ n : Nat) : Int) by simp]; omega
theorem at_hi (x d : Nat) : Ending.returned (.agg #[.int .u64 (IntKind.u64.wrap ((x : Int) * 2 ^ d)), .int .u64 0]) = .returned (BV (x * 2 ^ (d + 64))) := by
  have e : x * 2 ^ (d + 64) = x * 2 ^ d * 18446744073709551616 := by rw [Nat.pow_add, Nat.mul_assoc]
  refine pair_bits ?_ ?_
  · rw [limb1, e, wrap_shl, Nat.mul_div_cancel _ (by decide)]
  · rw [limb0, e, Nat.mul_mod_left]; rfl
theorem at_zero (x : Nat) (hx : x < 18446744073709551616) : Ending.returned (.agg #[.int .u64 0, .int .u64 (IntKind.u64.wrap (x : Int))]) = .returned (BV (x * 2 ^ 0)) := by
  rw [Nat.pow_zero, Nat.mul_one]
  exact pair_bits (by rw [limb1, Nat.div_eq_of_lt hx]; rfl) (by rw [limb0, Nat.mod_eq_of_lt hx, IntKind.wrap_u64]; omega)
theorem at_lo (x n d : Nat) (hx : x < 18446744073709551616) (hd : n + d = 64) : Ending.returned (.agg #[.int .u64 ((x : Int) / 2 ^ d), .int .u64 (IntKind.u64.wrap ((x : Int) * 2 ^ n))]) = .returned (BV (x * 2 ^ n)) := by
  have e : 18446744073709551616 = 2 ^ n * 2 ^ d := by rw [← Nat.pow_add, hd]
  refine pair_bits ?_ ?_
  · rw [limb1]
    have h1 : x * 2 ^ n / 18446744073709551616 = x / 2 ^ d := by rw [e, Nat.mul_comm (2 ^ n), Nat.mul_div_mul_right _ _ (Nat.two_pow_pos n)]
    have h2 : x / 2 ^ d < 18446744073709551616 := Nat.lt_of_le_of_lt (Nat.div_le_self _ _) hx
    rw [h1, Nat.mod_eq_of_lt h2, show (2 : Int) ^ d = ((2 ^ d : Nat) : Int) by simp]; rfl
  · rw [limb0, wrap_shl]
theorem shapeAt_hi (x d : Nat) (n : Nat) (w : World) (hn : n = d + 64) (hd : d < 64) :
    Calls Tryz.prog 157 #[.int .u64 x, .int .i64 n] w fun e w' => e = .returned (BV (x * 2 ^ n)) ∧ Below w.heap.size w w' := by
  have H := Own.start w
  subst hn
  have h1 : (64 : Int) ≤ (d : Int) + 64 := by omega
  have du : IntKind.u64.wrap (d : Int) = (d : Int) := by rw [IntKind.wrap_u64]; omega
  have dt : min (d : Int).toNat 64 = d := by omega
  rw [show ((d + 64 : Nat) : Int) = (d : Int) + 64 by omega]
  go_enter Tryz.func157, Tryz.ntmps157
  go_wp2_with (first
    | ((with_reducible show wpList _ _ _ (⟨_, .box _ _, _, _, _, _⟩ :: _) _ _); refine H.box rfl rfl (cells_agg _) ?_; (intro g w H; simp only [Act.put, q1_, q2_, q3_, List.set_nil]))
    | ((with_reducible show wpList _ _ _ (⟨_, .alloc 27, _, _, _, _⟩ :: _) _ _); refine H.new rfl (T := 27) rfl tB_z (cells_agg _) ?_; (intro g w H; simp only [Act.put, q1_, q2_, q3_, List.set_nil]))
    | ((with_reducible show wpList _ _ _ (⟨_, .alloc 25, _, _, _, _⟩ :: _) _ _); refine H.new rfl (T := 25) rfl tu_z (cells_int _ _) ?_; (intro g w H; simp only [Act.put, q1_, q2_, q3_, List.set_nil]))
    | ((with_reducible show wpList _ _ _ (⟨_, .load 27 _, _, _, _, _⟩ :: _) _ _); (first | refine H.load rfl (ty := 27) rfl rfl 0 rfl Tryz.underlying27 rfl (by with_reducible exact ext_2 _ _) (by exact tB_s) ?_ | refine H.load rfl (ty := 27) rfl rfl 1 rfl Tryz.underlying27 rfl (by with_reducible exact ext_2 _ _) (by exact tB_s) ?_); simp only [Act.put, q1_, q2_, q3_, List.set_nil])
    | ((with_reducible show wpList _ _ _ (⟨_, .load 25 _, _, _, _, _⟩ :: _) _ _); (first | refine H.load1 rfl (ty := 25) rfl rfl 0 rfl Tryz.underlying25 rfl (by with_reducible exact get_20 _ _) ?_ | refine H.load1 rfl (ty := 25) rfl rfl 0 rfl Tryz.underlying25 rfl (by with_reducible exact get_21 _ _) ?_ | refine H.load1 rfl (ty := 25) rfl rfl 0 rfl Tryz.underlying25 rfl (by with_reducible exact limbs_o0 _) ?_ | refine H.load1 rfl (ty := 25) rfl rfl 0 rfl Tryz.underlying25 rfl (by with_reducible exact limbs_o1 _) ?_ | refine H.load1 rfl (ty := 25) rfl rfl 0 rfl Tryz.underlying25 rfl (by with_reducible exact limbs_o2 _) ?_ | refine H.load1 rfl (ty := 25) rfl rfl 0 rfl Tryz.underlying25 rfl (by with_reducible exact limbs_o3 _) ?_ | refine H.load1 rfl (ty := 25) rfl rfl 0 rfl Tryz.underlying25 rfl (by with_reducible exact limbs_o4 _) ?_ | refine H.load1 rfl (ty := 25) rfl rfl 0 rfl Tryz.underlying25 rfl (by with_reducible exact limbs_o5 _) ?_ | refine H.load1 rfl (ty := 25) rfl rfl 0 rfl Tryz.underlying25 rfl (by with_reducible exact get_10 _) ?_ | refine H.load1 rfl (ty := 25) rfl rfl 1 rfl Tryz.underlying25 rfl (by with_reducible exact get_20 _ _) ?_ | refine H.load1 rfl (ty := 25) rfl rfl 1 rfl Tryz.underlying25 rfl (by with_reducible exact get_21 _ _) ?_ | refine H.load1 rfl (ty := 25) rfl rfl 1 rfl Tryz.underlying25 rfl (by with_reducible exact limbs_o0 _) ?_ | refine H.load1 rfl (ty := 25) rfl rfl 1 rfl Tryz.underlying25 rfl (by with_reducible exact limbs_o1 _) ?_ | refine H.load1 rfl (ty := 25) rfl rfl 1 rfl Tryz.underlying25 rfl (by with_reducible exact limbs_o2 _) ?_ | refine H.load1 rfl (ty := 25) rfl rfl 1 rfl Tryz.underlying25 rfl (by with_reducible exact limbs_o3 _) ?_ | refine H.load1 rfl (ty := 25) rfl rfl 1 rfl Tryz.underlying25 rfl (by with_reducible exact limbs_o4 _) ?_ | refine H.load1 rfl (ty := 25) rfl rfl 1 rfl Tryz.underlying25 rfl (by with_reducible exact limbs_o5 _) ?_ | refine H.load1 rfl (ty := 25) rfl rfl 1 rfl Tryz.underlying25 rfl (by with_reducible exact get_10 _) ?_); simp only [Act.put, q1_, q2_, q3_, List.set_nil])
    | ((with_reducible show wpList _ _ _ (⟨_, .store 27 _ _, _, _, _, _⟩ :: _) _ _); (first | refine H.store rfl (ty := 27) rfl rfl (cells_agg _) 0 rfl v2_ (by exact tB_s) (one_of rfl) (ble_le rfl) ?_ | refine H.store rfl (ty := 27) rfl rfl (cells_agg _) 1 rfl v2_ (by exact tB_s) (one_of rfl) (ble_le rfl) ?_); (intro w H; simp only [q2_, q3_] at H; simp only [Act.put, q1_, q2_, q3_, List.set_nil]))
    | ((with_reducible show wpList _ _ _ (⟨_, .store 25 _ _, _, _, _, _⟩ :: _) _ _); (first | refine H.store rfl (ty := 25) rfl rfl (cells_int _ _) 0 rfl (by with_reducible exact set_20 _ _ _) (by exact tu_s) (one_of rfl) (ble_le rfl) ?_ | refine H.store rfl (ty := 25) rfl rfl (cells_int _ _) 0 rfl (by with_reducible exact set_21 _ _ _) (by exact tu_s) (one_of rfl) (ble_le rfl) ?_ | refine H.store rfl (ty := 25) rfl rfl (cells_int _ _) 0 rfl (by with_reducible exact set_10 _ _) (by exact tu_s) (one_of rfl) (ble_le rfl) ?_ | refine H.store rfl (ty := 25) rfl rfl (cells_int _ _) 1 rfl (by with_reducible exact set_20 _ _ _) (by exact tu_s) (one_of rfl) (ble_le rfl) ?_ | refine H.store rfl (ty := 25) rfl rfl (cells_int _ _) 1 rfl (by with_reducible exact set_21 _ _ _) (by exact tu_s) (one_of rfl) (ble_le rfl) ?_ | refine H.store rfl (ty := 25) rfl rfl (cells_int _ _) 1 rfl (by with_reducible exact set_10 _ _) (by exact tu_s) (one_of rfl) (ble_le rfl) ?_); (intro w H; simp only [q2_, q3_] at H; simp only [Act.put, q1_, q2_, q3_, List.set_nil]))
    )
  (first | refine bodyPost_ret (results_c rfl rfl (H.result 0 rfl Tryz.underlying27 rfl (by exact tB_s) (ext_2 _ _))) rfl ⟨?_, H.below⟩ | refine bodyPost_ret (results_c rfl rfl (H.result 1 rfl Tryz.underlying27 rfl (by exact tB_s) (ext_2 _ _))) rfl ⟨?_, H.below⟩)
  exact at_hi x d
theorem shapeAt_zero (x n : Nat) (w : World) (hn : n = 0) (hx : x < 18446744073709551616) :
    Calls Tryz.prog 157 #[.int .u64 x, .int .i64 n] w fun e w' => e = .returned (BV (x * 2 ^ n)) ∧ Below w.heap.size w w' := by
  have H := Own.start w
  subst hn
  have HX := Lib.hid hx
  clear hx
  go_enter Tryz.func157, Tryz.ntmps157
  go_wp2_with (first
    | ((with_reducible show wpList _ _ _ (⟨_, .box _ _, _, _, _, _⟩ :: _) _ _); refine H.box rfl rfl (cells_agg _) ?_; (intro g w H; simp only [Act.put, q1_, q2_, q3_, List.set_nil]))
    | ((with_reducible show wpList _ _ _ (⟨_, .alloc 27, _, _, _, _⟩ :: _) _ _); refine H.new rfl (T := 27) rfl tB_z (cells_agg _) ?_; (intro g w H; simp only [Act.put, q1_, q2_, q3_, List.set_nil]))
    | ((with_reducible show wpList _ _ _ (⟨_, .alloc 25, _, _, _, _⟩ :: _) _ _); refine H.new rfl (T := 25) rfl tu_z (cells_int _ _) ?_; (intro g w H; simp only [Act.put, q1_, q2_, q3_, List.set_nil]))
    | ((with_reducible show wpList _ _ _ (⟨_, .load 27 _, _, _, _, _⟩ :: _) _ _); (first | refine H.load rfl (ty := 27) rfl rfl 0 rfl Tryz.underlying27 rfl (by with_reducible exact ext_2 _ _) (by exact tB_s) ?_ | refine H.load rfl (ty := 27) rfl rfl 1 rfl Tryz.underlying27 rfl (by with_reducible exact ext_2 _ _) (by exact tB_s) ?_); simp only [Act.put, q1_, q2_, q3_, List.set_nil])
    | ((with_reducible show wpList _ _ _ (⟨_, .load 25 _, _, _, _, _⟩ :: _) _ _); (first | refine H.load1 rfl (ty := 25) rfl rfl 0 rfl Tryz.underlying25 rfl (by with_reducible exact get_20 _ _) ?_ | refine H.load1 rfl (ty := 25) rfl rfl 0 rfl Tryz.underlying25 rfl (by with_reducible exact get_21 _ _) ?_ | refine H.load1 rfl (ty := 25) rfl rfl 0 rfl Tryz.underlying25 rfl (by with_reducible exact limbs_o0 _) ?_ | refine H.load1 rfl (ty := 25) rfl rfl 0 rfl Tryz.underlying25 rfl (by with_reducible exact limbs_o1 _) ?_ | refine H.load1 rfl (ty := 25) rfl rfl 0 rfl Tryz.underlying25 rfl (by with_reducible exact limbs_o2 _) ?_ | refine H.load1 rfl (ty := 25) rfl rfl 0 rfl Tryz.underlying25 rfl (by with_reducible exact limbs_o3 _) ?_ | refine H.load1 rfl (ty := 25) rfl rfl 0 rfl Tryz.underlying25 rfl (by with_reducible exact limbs_o4 _) ?_ | refine H.load1 rfl (ty := 25) rfl rfl 0 rfl Tryz.underlying25 rfl (by with_reducible exact limbs_o5 _) ?_ | refine H.load1 rfl (ty := 25) rfl rfl 0 rfl Tryz.underlying25 rfl (by with_reducible exact get_10 _) ?_ | refine H.load1 rfl (ty := 25) rfl rfl 1 rfl Tryz.underlying25 rfl (by with_reducible exact get_20 _ _) ?_ | refine H.load1 rfl (ty := 25) rfl rfl 1 rfl Tryz.underlying25 rfl (by with_reducible exact get_21 _ _) ?_ | refine H.load1 rfl (ty := 25) rfl rfl 1 rfl Tryz.underlying25 rfl (by with_reducible exact limbs_o0 _) ?_ | refine H.load1 rfl (ty := 25) rfl rfl 1 rfl Tryz.underlying25 rfl (by with_reducible exact limbs_o1 _) ?_ | refine H.load1 rfl (ty := 25) rfl rfl 1 rfl Tryz.underlying25 rfl (by with_reducible exact limbs_o2 _) ?_ | refine H.load1 rfl (ty := 25) rfl rfl 1 rfl Tryz.underlying25 rfl (by with_reducible exact limbs_o3 _) ?_ | refine H.load1 rfl (ty := 25) rfl rfl 1 rfl Tryz.underlying25 rfl (by with_reducible exact limbs_o4 _) ?_ | refine H.load1 rfl (ty := 25) rfl rfl 1 rfl Tryz.underlying25 rfl (by with_reducible exact limbs_o5 _) ?_ | refine H.load1 rfl (ty := 25) rfl rfl 1 rfl Tryz.underlying25 rfl (by with_reducible exact get_10 _) ?_); simp only [Act.put, q1_, q2_, q3_, List.set_nil])
    | ((with_reducible show wpList _ _ _ (⟨_, .store 27 _ _, _, _, _, _⟩ :: _) _ _); (first | refine H.store rfl (ty := 27) rfl rfl (cells_agg _) 0 rfl v2_ (by exact tB_s) (one_of rfl) (ble_le rfl) ?_ | refine H.store rfl (ty := 27) rfl rfl (cells_agg _) 1 rfl v2_ (by exact tB_s) (one_of rfl) (ble_le rfl) ?_); (intro w H; simp only [q2_, q3_] at H; simp only [Act.put, q1_, q2_, q3_, List.set_nil]))
    | ((with_reducible show wpList _ _ _ (⟨_, .store 25 _ _, _, _, _, _⟩ :: _) _ _); (first | refine H.store rfl (ty := 25) rfl rfl (cells_int _ _) 0 rfl (by with_reducible exact set_20 _ _ _) (by exact tu_s) (one_of rfl) (ble_le rfl) ?_ | refine H.store rfl (ty := 25) rfl rfl (cells_int _ _) 0 rfl (by with_reducible exact set_21 _ _ _) (by exact tu_s) (one_of rfl) (ble_le rfl) ?_ | refine H.store rfl (ty := 25) rfl rfl (cells_int _ _) 0 rfl (by with_reducible exact set_10 _ _) (by exact tu_s) (one_of rfl) (ble_le rfl) ?_ | refine H.store rfl (ty := 25) rfl rfl (cells_int _ _) 1 rfl (by with_reducible exact set_20 _ _ _) (by exact tu_s) (one_of rfl) (ble_le rfl) ?_ | refine H.store rfl (ty := 25) rfl rfl (cells_int _ _) 1 rfl (by with_reducible exact set_21 _ _ _) (by exact tu_s) (one_of rfl) (ble_le rfl) ?_ | refine H.store rfl (ty := 25) rfl rfl (cells_int _ _) 1 rfl (by with_reducible exact set_10 _ _) (by exact tu_s) (one_of rfl) (ble_le rfl) ?_); (intro w H; simp only [q2_, q3_] at H; simp only [Act.put, q1_, q2_, q3_, List.set_nil]))
    )
  (first | refine bodyPost_ret (results_c rfl rfl (H.result 0 rfl Tryz.underlying27 rfl (by exact tB_s) (ext_2 _ _))) rfl ⟨?_, H.below⟩ | refine bodyPost_ret (results_c rfl rfl (H.result 1 rfl Tryz.underlying27 rfl (by exact tB_s) (ext_2 _ _))) rfl ⟨?_, H.below⟩)
  exact at_zero x HX.out
theorem shapeAt_lo (x n d : Nat) (w : World) (hn : 0 < n) (h64 : n < 64) (hd : n + d = 64) (hx : x < 18446744073709551616) :
    Calls Tryz.prog 157 #[.int .u64 x, .int .i64 n] w fun e w' => e = .returned (BV (x * 2 ^ n)) ∧ Below w.heap.size w w' := by
  have H := Own.start w
  have h0 : (0 : Int) < (n : Int) := by omega
  have h1 : ¬ (64 : Int) ≤ (n : Int) := by omega
  have h2 : (n : Int) < 64 := by omega
  have du : IntKind.u64.wrap (n : Int) = (n : Int) := by rw [IntKind.wrap_u64]; omega
  have dt : min (n : Int).toNat 64 = n := by omega
  have dv : IntKind.i64.wrap (64 - (n : Int)) = (d : Int) := by rw [show (64 : Int) - n = d by omega]; exact IntWalk.i64_in _ (by omega)
  have dw : (64 : Int) - (n : Int) = (d : Int) := by omega
  have eu : IntKind.u64.wrap (d : Int) = (d : Int) := by rw [IntKind.wrap_u64]; omega
  have et : min (d : Int).toNat 64 = d := by omega
  have HX := Lib.hid hx
  have HD := Lib.hid hd
  clear hx hd hn h64
  go_enter Tryz.func157, Tryz.ntmps157
  go_wp2_with (first
    | ((with_reducible show wpList _ _ _ (⟨_, .box _ _, _, _, _, _⟩ :: _) _ _); refine H.box rfl rfl (cells_agg _) ?_; (intro g w H; simp only [Act.put, q1_, q2_, q3_, List.set_nil]))
    | ((with_reducible show wpList _ _ _ (⟨_, .alloc 27, _, _, _, _⟩ :: _) _ _); refine H.new rfl (T := 27) rfl tB_z (cells_agg _) ?_; (intro g w H; simp only [Act.put, q1_, q2_, q3_, List.set_nil]))
    | ((with_reducible show wpList _ _ _ (⟨_, .alloc 25, _, _, _, _⟩ :: _) _ _); refine H.new rfl (T := 25) rfl tu_z (cells_int _ _) ?_; (intro g w H; simp only [Act.put, q1_, q2_, q3_, List.set_nil]))
    | ((with_reducible show wpList _ _ _ (⟨_, .load 27 _, _, _, _, _⟩ :: _) _ _); (first | refine H.load rfl (ty := 27) rfl rfl 0 rfl Tryz.underlying27 rfl (by with_reducible exact ext_2 _ _) (by exact tB_s) ?_ | refine H.load rfl (ty := 27) rfl rfl 1 rfl Tryz.underlying27 rfl (by with_reducible exact ext_2 _ _) (by exact tB_s) ?_); simp only [Act.put, q1_, q2_, q3_, List.set_nil])
    | ((with_reducible show wpList _ _ _ (⟨_, .load 25 _, _, _, _, _⟩ :: _) _ _); (first | refine H.load1 rfl (ty := 25) rfl rfl 0 rfl Tryz.underlying25 rfl (by with_reducible exact get_20 _ _) ?_ | refine H.load1 rfl (ty := 25) rfl rfl 0 rfl Tryz.underlying25 rfl (by with_reducible exact get_21 _ _) ?_ | refine H.load1 rfl (ty := 25) rfl rfl 0 rfl Tryz.underlying25 rfl (by with_reducible exact limbs_o0 _) ?_ | refine H.load1 rfl (ty := 25) rfl rfl 0 rfl Tryz.underlying25 rfl (by with_reducible exact limbs_o1 _) ?_ | refine H.load1 rfl (ty := 25) rfl rfl 0 rfl Tryz.underlying25 rfl (by with_reducible exact limbs_o2 _) ?_ | refine H.load1 rfl (ty := 25) rfl rfl 0 rfl Tryz.underlying25 rfl (by with_reducible exact limbs_o3 _) ?_ | refine H.load1 rfl (ty := 25) rfl rfl 0 rfl Tryz.underlying25 rfl (by with_reducible exact limbs_o4 _) ?_ | refine H.load1 rfl (ty := 25) rfl rfl 0 rfl Tryz.underlying25 rfl (by with_reducible exact limbs_o5 _) ?_ | refine H.load1 rfl (ty := 25) rfl rfl 0 rfl Tryz.underlying25 rfl (by with_reducible exact get_10 _) ?_ | refine H.load1 rfl (ty := 25) rfl rfl 1 rfl Tryz.underlying25 rfl (by with_reducible exact get_20 _ _) ?_ | refine H.load1 rfl (ty := 25) rfl rfl 1 rfl Tryz.underlying25 rfl (by with_reducible exact get_21 _ _) ?_ | refine H.load1 rfl (ty := 25) rfl rfl 1 rfl Tryz.underlying25 rfl (by with_reducible exact limbs_o0 _) ?_ | refine H.load1 rfl (ty := 25) rfl rfl 1 rfl Tryz.underlying25 rfl (by with_reducible exact limbs_o1 _) ?_ | refine H.load1 rfl (ty := 25) rfl rfl 1 rfl Tryz.underlying25 rfl (by with_reducible exact limbs_o2 _) ?_ | refine H.load1 rfl (ty := 25) rfl rfl 1 rfl Tryz.underlying25 rfl (by with_reducible exact limbs_o3 _) ?_ | refine H.load1 rfl (ty := 25) rfl rfl 1 rfl Tryz.underlying25 rfl (by with_reducible exact limbs_o4 _) ?_ | refine H.load1 rfl (ty := 25) rfl rfl 1 rfl Tryz.underlying25 rfl (by with_reducible exact limbs_o5 _) ?_ | refine H.load1 rfl (ty := 25) rfl rfl 1 rfl Tryz.underlying25 rfl (by with_reducible exact get_10 _) ?_); simp only [Act.put, q1_, q2_, q3_, List.set_nil])
    | ((with_reducible show wpList _ _ _ (⟨_, .store 27 _ _, _, _, _, _⟩ :: _) _ _); (first | refine H.store rfl (ty := 27) rfl rfl (cells_agg _) 0 rfl v2_ (by exact tB_s) (one_of rfl) (ble_le rfl) ?_ | refine H.store rfl (ty := 27) rfl rfl (cells_agg _) 1 rfl v2_ (by exact tB_s) (one_of rfl) (ble_le rfl) ?_); (intro w H; simp only [q2_, q3_] at H; simp only [Act.put, q1_, q2_, q3_, List.set_nil]))
    | ((with_reducible show wpList _ _ _ (⟨_, .store 25 _ _, _, _, _, _⟩ :: _) _ _); (first | refine H.store rfl (ty := 25) rfl rfl (cells_int _ _) 0 rfl (by with_reducible exact set_20 _ _ _) (by exact tu_s) (one_of rfl) (ble_le rfl) ?_ | refine H.store rfl (ty := 25) rfl rfl (cells_int _ _) 0 rfl (by with_reducible exact set_21 _ _ _) (by exact tu_s) (one_of rfl) (ble_le rfl) ?_ | refine H.store rfl (ty := 25) rfl rfl (cells_int _ _) 0 rfl (by with_reducible exact set_10 _ _) (by exact tu_s) (one_of rfl) (ble_le rfl) ?_ | refine H.store rfl (ty := 25) rfl rfl (cells_int _ _) 1 rfl (by with_reducible exact set_20 _ _ _) (by exact tu_s) (one_of rfl) (ble_le rfl) ?_ | refine H.store rfl (ty := 25) rfl rfl (cells_int _ _) 1 rfl (by with_reducible exact set_21 _ _ _) (by exact tu_s) (one_of rfl) (ble_le rfl) ?_ | refine H.store rfl (ty := 25) rfl rfl (cells_int _ _) 1 rfl (by with_reducible exact set_10 _ _) (by exact tu_s) (one_of rfl) (ble_le rfl) ?_); (intro w H; simp only [q2_, q3_] at H; simp only [Act.put, q1_, q2_, q3_, List.set_nil]))
    )
  (first | refine bodyPost_ret (results_c rfl rfl (H.result 0 rfl Tryz.underlying27 rfl (by exact tB_s) (ext_2 _ _))) rfl ⟨?_, H.below⟩ | refine bodyPost_ret (results_c rfl rfl (H.result 1 rfl Tryz.underlying27 rfl (by exact tB_s) (ext_2 _ _))) rfl ⟨?_, H.below⟩)
  exact at_lo x n d HX.out HD.out
theorem shapeAt_any (x n : Nat) (w : World) (hn : n < 128) (hx : x < 18446744073709551616) :
    Calls Tryz.prog 157 #[.int .u64 x, .int .i64 n] w fun e w' => e = .returned (BV (x * 2 ^ n)) ∧ Below w.heap.size w w' := by
  rcases Nat.lt_or_ge n 64 with h | h
  · rcases Nat.eq_zero_or_pos n with h0 | h0
    · exact shapeAt_zero x n w h0 hx
    · exact shapeAt_lo x n (64 - n) w h0 h (by omega) hx
  · exact shapeAt_hi x (n - 64) n w (by omega) (by omega)
end Go.Proofs.YtgmhmpflmgfcdaaGreatDoor
