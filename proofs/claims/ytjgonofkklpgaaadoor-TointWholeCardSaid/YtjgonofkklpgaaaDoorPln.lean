/- Plain numbers: lengths in bits, the formats' numbers, what encodings are, how is rounded. -/
import Init
namespace Go.Proofs.YtjgonofkklpgaaaDoor

/-- One above the greatest number of 384 bits. -/
def top6 : Nat := 2 ^ (64 * 6)
/-- The length of a number in bits. -/
def lenN (a : Nat) : Nat := if a = 0 then 0 else Nat.log2 a + 1
theorem lenN_zero : lenN 0 = 0 := rfl
theorem lenN_le (a k : Nat) : lenN a ≤ k ↔ a < 2 ^ k := by
  unfold lenN
  by_cases h : a = 0
  · subst h; simp [Nat.two_pow_pos]
  · rw [if_neg h, ← Nat.log2_lt h]; omega
theorem lenN_lt (a : Nat) : a < 2 ^ lenN a := (lenN_le a _).1 (Nat.le_refl _)
theorem lenN_ge (a : Nat) (h : a ≠ 0) : 2 ^ (lenN a - 1) ≤ a := by
  rcases Nat.lt_or_ge a (2 ^ (lenN a - 1)) with hl | hl
  · have := (lenN_le a _).2 hl
    have : lenN a ≠ 0 := by unfold lenN; rw [if_neg h]; omega
    omega
  · exact hl
theorem lenN_pos (a : Nat) (h : a ≠ 0) : 1 ≤ lenN a := by unfold lenN; rw [if_neg h]; omega
theorem lenN_unique (a n : Nat) (h1 : 2 ^ (n - 1) ≤ a) (h2 : a < 2 ^ n) (hn : 1 ≤ n) : lenN a = n := by
  have ha : a ≠ 0 := by have := Nat.two_pow_pos (n - 1); omega
  have l1 : lenN a ≤ n := (lenN_le a n).2 h2
  rcases Nat.lt_or_ge (lenN a) n with h | h
  · have : a < 2 ^ (n - 1) := (lenN_le a _).1 (by omega)
    omega
  · omega
/-- Widths, precisions, greatest exponents of the forms. -/
def wF : Nat → Nat | 0 => 32 | 1 => 64 | 2 => 16 | 3 => 128 | _ => 0
def pF : Nat → Nat | 0 => 24 | 1 => 53 | 2 => 11 | 3 => 113 | _ => 0
def eF : Nat → Nat | 0 => 127 | 1 => 1023 | 2 => 15 | 3 => 16383 | _ => 0
def nameF : Nat → Array UInt8 | 0 => #[115] | 1 => #[100] | 2 => #[104] | 3 => #[113] | _ => #[]
theorem forms (f : Nat) : f = 0 ∨ f = 1 ∨ f = 2 ∨ f = 3 ∨ 4 ≤ f := by omega
theorem wF_big (f : Nat) (h : 4 ≤ f) : wF f = 0 ∧ pF f = 0 ∧ eF f = 0 ∧ nameF f = #[] := by
  match f, h with
  | f + 4, _ => exact ⟨rfl, rfl, rfl, rfl⟩
def eminI (f : Nat) : Int := cond (decide (f < 4)) (1 - (eF f : Nat)) 0
theorem eF_le (f : Nat) : eF f ≤ 16383 := by
  rcases forms f with rfl | rfl | rfl | rfl | h
  · decide
  · decide
  · decide
  · decide
  · rw [(wF_big f h).2.2.1]; omega
def fitsB (f b : Nat) : Bool := decide (f < 4) && decide (b < 2 ^ wF f)
def expN (f b : Nat) : Nat := b / 2 ^ (pF f - 1) % 2 ^ (wF f - pF f)
theorem formB (f : Nat) (h : f < 4) : 11 ≤ pF f ∧ pF f ≤ 113 ∧ 16 ≤ wF f ∧ wF f ≤ 128 ∧ pF f + 5 ≤ wF f ∧ wF f ≤ pF f + 15 := by
  have : f = 0 ∨ f = 1 ∨ f = 2 ∨ f = 3 := by omega
  rcases this with rfl | rfl | rfl | rfl <;> decide

def clsN (f b : Nat) : Nat :=
  if expN f b = 2 * eF f + 1 then (if b % 2 ^ (pF f - 1) = 0 then cond (b.testBit (wF f - 1)) 0 7 else cond ((b % 2 ^ (pF f - 1)).testBit (pF f - 2)) 9 8)
  else if expN f b = 0 then (if b % 2 ^ (pF f - 1) = 0 then cond (b.testBit (wF f - 1)) 3 4 else cond (b.testBit (wF f - 1)) 2 5)
  else cond (b.testBit (wF f - 1)) 1 6
def upB (m : Nat) (neg odd : Bool) (half : Int) (exact : Bool) : Bool :=
  !exact && (match m with | 0 => decide (0 < half) || (decide (half = 0) && odd) | 2 => neg | 3 => !neg | 4 => decide (0 ≤ half) | _ => false)
theorem upB_big (m : Nat) (neg odd : Bool) (half : Int) (exact : Bool) (h : 5 ≤ m) : upB m neg odd half exact = false := by
  match m, h with
  | m + 5, _ => simp [upB]

/-- The ends of the kinds of whole numbers, without their sign. -/
def lowK : Nat → Nat | 0 => 2147483648 | 1 => 0 | 2 => 9223372036854775808 | _ => 0
def highK : Nat → Nat | 0 => 2147483647 | 1 => 4294967295 | 2 => 9223372036854775807 | _ => 18446744073709551615
/-- What is told: the number in two's complement, of the narrow kinds from the 32 bits. -/
def neg64 (neg : Bool) (n : Nat) : Nat := cond neg ((18446744073709551616 - n) % 18446744073709551616) n
def sext32 (n : Nat) : Nat := cond (decide (n % 4294967296 < 2147483648)) (n % 4294967296) (n % 4294967296 + 18446744069414584320)
def toldN (k : Nat) (neg : Bool) (n : Nat) : Nat := cond (decide (k < 2)) (sext32 (neg64 neg n)) (neg64 neg n)
/-- How what is cut off stands to one half: -1 below, 0 half, 1 above. -/
def halfN (a n : Nat) : Int := if n = 0 then -1 else if a.testBit (n - 1) then (if a % 2 ^ (n - 1) = 0 then 0 else 1) else -1
def cmpN (a b : Nat) : Int := if a < b then -1 else if b < a then 1 else 0
end Go.Proofs.YtjgonofkklpgaaaDoor
