/- More plain arithmetic on six words: filling a block word by word, bits, lengths, shifts. -/
import Derived.Test.YtjgonofkklpgaaaDoorWmath
import Derived.Lib.ItoaNum
namespace Go.Proofs.YtjgonofkklpgaaaDoor
open Go.RowKit

/-- A block whose first k cells have been written. -/
def fillTo (base : Array Value) (f : Nat → Value) : Nat → Array Value
  | 0 => base
  | k + 1 => (fillTo base f k).setIfInBounds k (f k)
theorem fillTo_size (base : Array Value) (f : Nat → Value) (k : Nat) : (fillTo base f k).size = base.size := by
  induction k with
  | zero => rfl
  | succ k ih => simp [fillTo, ih]
theorem fillTo_hi (base : Array Value) (f : Nat → Value) (k j : Nat) (h : k ≤ j) : (fillTo base f k)[j]? = base[j]? := by
  induction k with
  | zero => rfl
  | succ k ih =>
    rw [fillTo, Array.getElem?_setIfInBounds, if_neg (by omega)]
    exact ih (by omega)
theorem fillTo_lo (base : Array Value) (f : Nat → Value) (k j : Nat) (h : j < k) (hb : j < base.size) : (fillTo base f k)[j]? = some (f j) := by
  induction k with
  | zero => omega
  | succ k ih =>
    rw [fillTo, Array.getElem?_setIfInBounds]
    by_cases e : k = j
    · subst e
      rw [if_pos rfl, if_pos (by rw [fillTo_size]; exact hb)]
    · rw [if_neg e]; exact ih (by omega)
/-- All six written. -/
theorem fillTo_all (base : Array Value) (f : Nat → Value) (a : Nat) (hb : base.size = 6) (h : ∀ i, i < 6 → f i = .int .u64 (limb a i)) : fillTo base f 6 = limbs a := by
  apply Array.ext_getElem?
  intro j
  by_cases hj : j < 6
  · rw [fillTo_lo base f 6 j hj (by omega), limbs_get a j hj, h j hj]
  · rw [Array.getElem?_eq_none (by rw [fillTo_size]; omega), Array.getElem?_eq_none (by rw [limbs_size]; omega)]

theorem limbN_and (a b i : Nat) : limbN (a &&& b) i = limbN a i &&& limbN b i := by
  unfold limbN; rw [B64, Nat.and_div_two_pow, Nat.and_mod_two_pow]
theorem limbN_or (a b i : Nat) : limbN (a ||| b) i = limbN a i ||| limbN b i := by
  unfold limbN; rw [B64, Nat.or_div_two_pow, Nat.or_mod_two_pow]
theorem limb_and (a b i : Nat) : Go.bits .and .u64 (limb a i) (limb b i) = limb (a &&& b) i := by
  unfold limb; rw [u64_and_nat _ _ (limbN_lt a i) (limbN_lt b i), limbN_and]
theorem limb_or (a b i : Nat) : Go.bits .or .u64 (limb a i) (limb b i) = limb (a ||| b) i := by
  unfold limb; rw [u64_or_nat _ _ (limbN_lt a i) (limbN_lt b i), limbN_or]

/-- The words of 128 bits, as a value of the struct Bits. -/
abbrev BV (b : Nat) : Value := .agg #[.int .u64 (limb b 1), .int .u64 (limb b 0)]

theorem bitLen_eq (x : Nat) (h : x < 2 ^ 64) : Lib.bitLen x = lenN x := by
  by_cases hx : x = 0
  · subst hx; rfl
  · have := Lib.bitLenAux_bounds 64 x h hx
    exact (lenN_unique x _ this.2.1 this.2.2 this.1).symm
theorem lenW_limb (a i : Nat) : lenW (limb a i) = (lenN (limbN a i) : Nat) := by
  unfold lenW limb
  rw [Int.toNat_natCast, bitLen_eq _ (limbN_lt a i)]
/-- The length by the highest word that is not 0. -/
theorem lenN_top (a k : Nat) (h : a < 2 ^ (64 * (k + 1))) (hk : limbN a k ≠ 0) : lenN a = 64 * k + lenN (limbN a k) := by
  have e : limbN a k = a / 2 ^ (64 * k) := by
    unfold limbN
    apply Nat.mod_eq_of_lt
    rw [Nat.div_lt_iff_lt_mul (pw_pos k), Nat.mul_comm, ← pw_succ]; exact h
  rw [e] at hk ⊢
  have hl := lenN_lt (a / 2 ^ (64 * k))
  have hg := lenN_ge _ hk
  have hp := lenN_pos _ hk
  apply lenN_unique
  · rw [show 64 * k + lenN (a / 2 ^ (64 * k)) - 1 = (lenN (a / 2 ^ (64 * k)) - 1) + 64 * k by omega, Nat.pow_add]
    exact (Nat.le_div_iff_mul_le (pw_pos k)).1 hg
  · rw [Nat.add_comm, Nat.pow_add]
    exact (Nat.div_lt_iff_lt_mul (pw_pos k)).1 hl
  · omega
theorem top_zero (a k : Nat) (h : a < 2 ^ (64 * (k + 1))) (hk : limbN a k = 0) : a < 2 ^ (64 * k) := by
  have e : limbN a k = a / 2 ^ (64 * k) := by
    unfold limbN
    apply Nat.mod_eq_of_lt
    rw [Nat.div_lt_iff_lt_mul (pw_pos k), Nat.mul_comm, ← pw_succ]; exact h
  rw [e] at hk
  rcases Nat.lt_or_ge a (2 ^ (64 * k)) with h1 | h1
  · exact h1
  · have := (Nat.le_div_iff_mul_le (pw_pos k)).2 (show 1 * 2 ^ (64 * k) ≤ a by omega)
    omega

theorem limb_bit (a i : Nat) : (limbN a (i / 64)).testBit (i % 64) = a.testBit i := by
  unfold limbN
  rw [B64, Nat.testBit_mod_two_pow, Nat.testBit_div_two_pow]
  rw [show i % 64 + 64 * (i / 64) = i by omega]
  simp [Nat.mod_lt i (show 0 < 64 by decide)]

/-- Two words, seen from bit s of the lower one. -/
theorem cat_word (x s : Nat) (hs : s ≤ 64) : (x / 2 ^ s) % 18446744073709551616 = (x / 18446744073709551616 % 18446744073709551616) * 2 ^ (64 - s) % 18446744073709551616 + x % 18446744073709551616 / 2 ^ s := by
  have hp : (18446744073709551616 : Nat) = 2 ^ s * 2 ^ (64 - s) := by rw [← Nat.pow_add, show s + (64 - s) = 64 by omega]
  have h1 : x = 18446744073709551616 * (x / 18446744073709551616) + x % 18446744073709551616 := (Nat.div_add_mod _ _).symm
  generalize hq : x / 18446744073709551616 = q at *
  generalize hr : x % 18446744073709551616 = r at *
  have hr1 : r < 18446744073709551616 := by rw [← hr]; exact Nat.mod_lt _ (by decide)
  have e1 : x / 2 ^ s = q * 2 ^ (64 - s) + r / 2 ^ s := by
    rw [h1, hp, Nat.mul_assoc, Nat.add_comm, Nat.add_mul_div_left _ _ (Nat.two_pow_pos s), Nat.mul_comm q]
    omega
  have e2 : r / 2 ^ s < 2 ^ (64 - s) := by
    rw [Nat.div_lt_iff_lt_mul (Nat.two_pow_pos s), Nat.mul_comm, ← hp]; exact hr1
  rw [e1, Nat.add_mod, Nat.mul_mod (q % 18446744073709551616), Nat.mod_mod, ← Nat.mul_mod]
  have e3 : r / 2 ^ s % 18446744073709551616 = r / 2 ^ s := Nat.mod_eq_of_lt (Nat.lt_of_lt_of_le e2 (by
    have := Nat.pow_le_pow_right (show 0 < 2 by decide) (show 64 - s ≤ 64 by omega)
    rw [B64]; exact this))
  rw [e3]
  have e4 : q * 2 ^ (64 - s) % 18446744073709551616 = 2 ^ (64 - s) * (q % 2 ^ s) := by
    rw [hp, Nat.mul_comm q, Nat.mul_comm (2 ^ s), Nat.mul_mod_mul_left]
  rw [e4]
  apply Nat.mod_eq_of_lt
  have e5 : q % 2 ^ s + 1 ≤ 2 ^ s := Nat.mod_lt _ (Nat.two_pow_pos s)
  have e6 : 2 ^ (64 - s) * (q % 2 ^ s + 1) ≤ 2 ^ (64 - s) * 2 ^ s := Nat.mul_le_mul_left _ e5
  rw [Nat.mul_comm (2 ^ (64 - s)) (2 ^ s), ← hp, Nat.mul_add] at e6
  omega

/-- Six cells stored over a block of six. -/
theorem Blk.store6 {T : TypeId} {w : World} {g : Nat} {cs : Array Value} (h : Blk T w g cs) (hs : cs.size = 6) (v0 v1 v2 v3 v4 v5 : Value) :
    Blk T ((((((w.setCell ⟨g, 0, none⟩ v0).setCell ⟨g, 1, none⟩ v1).setCell ⟨g, 2, none⟩ v2).setCell ⟨g, 3, none⟩ v3).setCell ⟨g, 4, none⟩ v4).setCell ⟨g, 5, none⟩ v5) g #[v0, v1, v2, v3, v4, v5] := by
  obtain ⟨l⟩ := cs
  match l, hs with
  | [c0, c1, c2, c3, c4, c5], _ =>
    exact (((((h.set 0 v0 rfl).set 1 v1 rfl).set 2 v2 rfl).set 3 v3 rfl).set 4 v4 rfl).set 5 v5 rfl
/-- The six cells of a number, as the walk wants them. -/
theorem Blk.six {T : TypeId} {w : World} {g a : Nat} (h : Blk T w g (limbs a)) :
    w.cell? ⟨g, 0, none⟩ = some (.int .u64 (limb a 0)) ∧ w.cell? ⟨g, 1, none⟩ = some (.int .u64 (limb a 1)) ∧ w.cell? ⟨g, 2, none⟩ = some (.int .u64 (limb a 2)) ∧
    w.cell? ⟨g, 3, none⟩ = some (.int .u64 (limb a 3)) ∧ w.cell? ⟨g, 4, none⟩ = some (.int .u64 (limb a 4)) ∧ w.cell? ⟨g, 5, none⟩ = some (.int .u64 (limb a 5)) :=
  ⟨h.cell 0 rfl, h.cell 1 rfl, h.cell 2 rfl, h.cell 3 rfl, h.cell 4 rfl, h.cell 5 rfl⟩
theorem Blk.six_free {T : TypeId} {w : World} {g : Nat} {cs : Array Value} (h : Blk T w g cs) :
    w.frozen? ⟨g, 0, none⟩ = false ∧ w.frozen? ⟨g, 1, none⟩ = false ∧ w.frozen? ⟨g, 2, none⟩ = false ∧ w.frozen? ⟨g, 3, none⟩ = false ∧ w.frozen? ⟨g, 4, none⟩ = false ∧ w.frozen? ⟨g, 5, none⟩ = false :=
  ⟨h.free 0, h.free 1, h.free 2, h.free 3, h.free 4, h.free 5⟩
theorem below_set6 {B : Nat} {w0 w : World} {g : Nat} (hb : Below B w0 w) (hg : B ≤ g) (v0 v1 v2 v3 v4 v5 : Value) :
    Below B w0 ((((((w.setCell ⟨g, 0, none⟩ v0).setCell ⟨g, 1, none⟩ v1).setCell ⟨g, 2, none⟩ v2).setCell ⟨g, 3, none⟩ v3).setCell ⟨g, 4, none⟩ v4).setCell ⟨g, 5, none⟩ v5) :=
  (((((hb.setCell hg _).setCell hg _).setCell hg _).setCell hg _).setCell hg _).setCell hg _
end Go.Proofs.YtjgonofkklpgaaaDoor
