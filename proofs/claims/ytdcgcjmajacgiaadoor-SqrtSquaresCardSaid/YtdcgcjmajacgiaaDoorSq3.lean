/- Part 3 of what is proved: Wlow, Wlen, Wright, Wleft, Wmask, Wand, Jam, Jam2, Jam3, Shp, Fit, Fld, Cls, Cls2. -/
import Derived.Deep.RegionWith
import Derived.Deep.QuietTactic
import Derived.BigQuiet
import Derived.Outline
import Derived.RegionTactic
import Derived.Deep.RegionHeld3
import Derived.Deep.Cut
import Derived.Test.YtdcgcjmajacgiaaDoorSq2
set_option linter.unusedSimpArgs false
set_option linter.unusedVariables false
set_option linter.unnecessarySimpa false
namespace Go.Proofs.YtdcgcjmajacgiaaDoor
open Go.RowKit
/-- How many noughts stand at the low end; 384 of 0. -/
def lowN (a : Nat) : Nat := if a = 0 then 384 else Lib.ctzFrom (64 * 6) a
/-- It is the one place at which a number that is not 0 has its lowest bit. -/
theorem odd_unique (c d m n : Nat) (h : 2 ^ c * (2 * m + 1) = 2 ^ d * (2 * n + 1)) : c = d := by
  rcases Nat.lt_trichotomy c d with hl | hl | hl
  · have e : 2 ^ d = 2 ^ c * (2 * 2 ^ (d - c - 1)) := by
      rw [show d = c + (1 + (d - c - 1)) by omega, Nat.pow_add, Nat.pow_add]; simp
    rw [e, Nat.mul_assoc] at h
    have := Nat.eq_of_mul_eq_mul_left (Nat.two_pow_pos c) h
    rw [Nat.mul_assoc] at this
    omega
  · exact hl
  · have e : 2 ^ c = 2 ^ d * (2 * 2 ^ (c - d - 1)) := by
      rw [show c = d + (1 + (c - d - 1)) by omega, Nat.pow_add, Nat.pow_add]; simp
    rw [e, Nat.mul_assoc] at h
    have := Nat.eq_of_mul_eq_mul_left (Nat.two_pow_pos d) h
    rw [Nat.mul_assoc] at this
    omega
theorem lowN_spec (a : Nat) (h : a < top6) (h0 : a ≠ 0) : ∃ m, a = 2 ^ lowN a * (2 * m + 1) ∧ lowN a < 384 := by
  unfold lowN
  rw [if_neg h0]
  unfold top6 at h
  obtain ⟨m, e, hc⟩ := Lib.ctzFrom_spec (64 * 6) a (Nat.pos_of_ne_zero h0) h
  exact ⟨m, e, by omega⟩
theorem lowN_eq (a c m : Nat) (h : a < top6) (e : a = 2 ^ c * (2 * m + 1)) : lowN a = c := by
  have h0 : a ≠ 0 := by
    have := Nat.two_pow_pos c
    rw [e]; exact Nat.mul_ne_zero (by omega) (by omega)
  obtain ⟨m', e', _⟩ := lowN_spec a h h0
  exact odd_unique _ _ m' m (by rw [← e', ← e])
/-- Words lower than k are 0. -/
def LowZero (a k : Nat) : Prop := a % 2 ^ (64 * k) = 0
theorem lowZero_step (a k : Nat) (h : LowZero a k) (hz : limbN a k = 0) : LowZero a (k + 1) := by
  unfold LowZero at *
  rw [mod_low, h, hz]; simp
theorem low_word (a k : Nat) (hk : k < 6) (ha : a < top6) (h : LowZero a k) (hz : limbN a k ≠ 0) : lowN a = 64 * k + Lib.ctz 64 (limbN a k) := by
  unfold LowZero at h
  have hx := limbN_lt a k
  obtain ⟨m, e, hc⟩ := Lib.ctzFrom_spec 64 (limbN a k) (Nat.pos_of_ne_zero hz) hx
  have hct : Lib.ctz 64 (limbN a k) = Lib.ctzFrom 64 (limbN a k) := by unfold Lib.ctz; rw [if_neg hz]
  rw [hct]
  generalize Lib.ctzFrom 64 (limbN a k) = c at *
  have h1 : a = 2 ^ (64 * k) * (a / 2 ^ (64 * k)) := by have := Nat.div_add_mod a (2 ^ (64 * k)); omega
  have h2 : a / 2 ^ (64 * k) = 18446744073709551616 * (a / 2 ^ (64 * k) / 18446744073709551616) + limbN a k := (Nat.div_add_mod _ _).symm
  apply lowN_eq a _ (m + 2 ^ (63 - c) * (a / 2 ^ (64 * k) / 18446744073709551616)) ha
  generalize a / 2 ^ (64 * k) / 18446744073709551616 = q at *
  rw [h1, h2, e, Nat.pow_add, Nat.mul_assoc]
  congr 1
  have hp : (18446744073709551616 : Nat) = 2 ^ c * (2 * 2 ^ (63 - c)) := by
    have : (2 : Nat) * 2 ^ (63 - c) = 2 ^ (1 + (63 - c)) := by rw [Nat.pow_add]
    rw [this, ← Nat.pow_add, show c + (1 + (63 - c)) = 64 by omega]
  rw [hp, Nat.mul_assoc, ← Nat.mul_add]
  congr 1
  rw [Nat.mul_assoc]; omega
theorem lowW_limb (a i : Nat) : lowW (limb a i) = (Lib.ctz 64 (limbN a i) : Nat) := by
  unfold lowW limb; rw [Int.toNat_natCast]
theorem ctz_le (x : Nat) (h : x < 18446744073709551616) : Lib.ctz 64 x ≤ 64 := by
  unfold Lib.ctz
  by_cases hx : x = 0
  · rw [if_pos hx]; omega
  · rw [if_neg hx]
    obtain ⟨m, _, hc⟩ := Lib.ctzFrom_spec 64 x (Nat.pos_of_ne_zero hx) h
    omega
set_option maxHeartbeats 1600000 in
set_option maxRecDepth 100000 in
theorem wideLow_any (a : Nat) (w : World) (h : a < top6) (hT : Tab w) :
    Calls Tryd.prog 118 #[W a] w fun e w' => e = .returned (.int .i64 (lowN a : Nat)) ∧ Below w.heap.size w w' := by
  have sa := limbs_size a
  obtain ⟨c0, c1, c2, c3, c4, c5⟩ := (Blk.new (T := 54) w (limbs a)).six
  have HT := Lib.hid hT
  have HA := Lib.hid h
  clear hT h
  go_enter Tryd.func118, Tryd.ntmps118
  go_wp2_with fail
  go_loopw [6] (fun i wr => ∃ k : Nat, k ≤ 6 ∧ i = .int .i64 (k : Int) ∧ LowZero a k ∧ Below w.heap.size w wr) (fun i _ => 6 - (intOf i).toNat)
  case atStart => exact ⟨0, by omega, rfl, by unfold LowZero; exact Nat.mod_one a, (Below.refl _ _).alloc (Nat.le_refl _) _⟩
  case round =>
    obtain ⟨k, hk, rfl, hZ, hbel⟩ := hrel
    by_cases hlt : k < 6
    · have ix := run_index_wide wr a k hlt
      by_cases hz : limbN a k = 0
      · have z : limb a k = 0 := by unfold limb; rw [hz]; rfl
        rw [z] at ix
        have S := lowZero_step a k hZ hz
        clear hz z hZ
        go_wp2_with fail
        go_roundw
        case rel => exact ⟨k + 1, by omega, by go_num, S, hbel⟩
        case measure => simp [intOf]; omega
      · have z : (limb a k != 0) = true := by unfold limb; simpa using hz
        have L := Lib.hid (low_word a k hlt HA.out hZ hz)
        have lw := lowW_limb a k
        have b0 : 0 ≤ lowW (limb a k) := by rw [lw]; omega
        have b1 : lowW (limb a k) ≤ 64 := by rw [lw]; have := ctz_le (limbN a k) (limbN_lt a k); omega
        have LW := Lib.hid lw
        clear hz lw hZ
        go_wp2_with fail
        refine (wordLow_any _ _ (limb_w a k) (HT.out.below hbel)).mono ?_
        rintro e w' ⟨rfl, rfl⟩
        go_wp2_with fail
        go_ret
        exact ⟨ret_int (by rw [LW.out, L.out]; omega), hbel⟩
    · have : k = 6 := by omega
      subst this
      have Z := Lib.hid (show (384 : Int) = (lowN a : Nat) by
        have h0 : a = 0 := by
          have := hZ
          have h6 := HA.out
          unfold LowZero at this
          unfold top6 at h6
          rwa [Nat.mod_eq_of_lt h6] at this
        subst h0; rfl)
      clear hZ
      go_wp2_with fail
      go_ret
      exact ⟨ret_int Z.out, hbel⟩
theorem wideCount_any (n : Int) (w : World) :
    Calls Tryd.prog 100 #[.int .i64 n] w fun e w' => e = .returned (.int .i64 (min (max n 0) 384)) ∧ w = w' := by
  go_enter Tryd.func100, Tryd.ntmps100
  go_wp2
  go_ret
  exact ⟨rfl, rfl⟩
end Go.Proofs.YtdcgcjmajacgiaaDoor

namespace Go.Proofs.YtdcgcjmajacgiaaDoor
open Go.RowKit
theorem lt6 {a : Nat} (h : a < top6) : Hid (a < 2 ^ (64 * 6)) := by
  unfold top6 at h
  exact Lib.hid h
theorem limb_zero_iff (a i : Nat) : (limb a i != 0) = (limbN a i != 0) := by
  unfold limb; rw [Bool.eq_iff_iff]; simp
set_option maxHeartbeats 1600000 in
set_option maxRecDepth 100000 in
theorem wideLen_any (a : Nat) (w : World) (h : a < top6) :
    Calls Tryd.prog 78 #[W a] w fun e w' => e = .returned (.int .i64 (lenN a : Nat)) ∧ Below w.heap.size w w' := by
  have sa := limbs_size a
  have T := Lib.hid h
  clear h
  go_enter Tryd.func78, Tryd.ntmps78
  go_wp2_with fail
  go_loopw [3] (fun i wr => ∃ k : Nat, k ≤ 6 ∧ i = .int .i64 ((k : Int) - 1) ∧ Hid (a < 2 ^ (64 * k)) ∧ Blk 54 wr w.heap.size (limbs a) ∧ Below w.heap.size w wr) (fun i _ => (intOf i + 1).toNat)
  case atStart => exact ⟨6, by omega, rfl, lt6 T.out, Blk.new w _, (Below.refl _ _).alloc (Nat.le_refl _) _⟩
  case round =>
    obtain ⟨k, hk, rfl, ha, hb, hbel⟩ := hrel
    cases k with
    | zero =>
      have Z := Lib.hid (show (0 : Int) = (lenN a : Nat) by
        have : a = 0 := by have := ha.out; simp at this; exact this
        subst this; rfl)
      go_wp2_with fail
      go_ret
      exact ⟨ret_int Z.out, hbel⟩
    | succ j =>
      have cj := hb.cell j (limbs_get a j (by omega))
      rw [show ((j + 1 : Nat) : Int) - 1 = (j : Int) by omega]
      by_cases hz : limbN a j = 0
      · have t := top_zero a j ha.out hz
        have z : limb a j = 0 := by unfold limb; rw [hz]; rfl
        rw [z] at cj
        have HA := Lib.hid t
        clear t ha hz z
        go_wp2_with fail
        go_roundw
        case rel => exact ⟨j, by omega, rfl, HA, hb, hbel⟩
        case measure => simp [intOf]
      · have l := lenN_top a j ha.out hz
        have L := Lib.hid l
        have z : (limb a j != 0) = true := by rw [limb_zero_iff]; simpa using hz
        have b64 : (lenN (limbN a j) : Int) ≤ 64 := by
          have := (lenN_le (limbN a j) 64).2 (limbN_lt a j)
          omega
        have lw := lenW_limb a j
        have b0 : 0 ≤ lenW (limb a j) := by rw [lw]; omega
        have b1 : lenW (limb a j) ≤ 64 := by rw [lw]; exact b64
        have LW := Lib.hid lw
        clear l ha hz b64 lw
        go_wp2_with fail
        refine (wordLen_any _ _ (limb_w a j)).mono ?_
        rintro e w' ⟨rfl, rfl⟩
        go_wp2_with fail
        go_ret
        exact ⟨ret_int (by rw [LW.out, L.out]; omega), hbel⟩
theorem limbs_word (x : Nat) (h : x < 18446744073709551616) : limbs x = #[.int .u64 (x : Nat), .int .u64 0, .int .u64 0, .int .u64 0, .int .u64 0, .int .u64 0] := by
  have e0 : ∀ i, limb x i = if i = 0 then (x : Int) else 0 := by
    intro i
    have := limbN_put 0 x 0 i (pw_pos 0) h
    rw [Nat.zero_add, show x * 2 ^ (64 * 0) = x by simp] at this
    unfold limb
    rw [this]
    split
    · rfl
    · unfold limbN; rw [Nat.zero_div]; rfl
  unfold limbs
  simp only [e0]; rfl
theorem wideOf_any (x : Nat) (w : World) (h : x < 18446744073709551616) :
    Calls Tryd.prog 33 #[.int .u64 x] w fun e w' => e = .returned (W x) ∧ Below w.heap.size w w' := by
  have E := Lib.hid (limbs_word x h)
  clear h
  go_enter Tryd.func33, Tryd.ntmps33
  go_wp2
  refine bodyPost_ret (v := .agg #[.int .u64 (x : Nat), .int .u64 0, .int .u64 0, .int .u64 0, .int .u64 0, .int .u64 0]) (by simp [results, Tryd.results33, go_sem]) rfl ⟨by rw [W, E.out], (Below.refl _ _).alloc (Nat.le_refl _) _⟩
theorem limbs_bits (b : Nat) (h : b < 2 ^ (64 * 2)) : limbs b = #[.int .u64 (limb b 0), .int .u64 (limb b 1), .int .u64 0, .int .u64 0, .int .u64 0, .int .u64 0] := by
  have z : ∀ i, 2 ≤ i → limb b i = 0 := by
    intro i hi
    unfold limb limbN
    rw [Nat.div_eq_of_lt (Nat.lt_of_lt_of_le h (Nat.pow_le_pow_right (by decide) (by omega)))]; rfl
  unfold limbs
  rw [z 2 (by decide), z 3 (by decide), z 4 (by decide), z 5 (by decide)]
theorem wideOfBits_any (b : Nat) (w : World) (h : b < 2 ^ (64 * 2)) :
    Calls Tryd.prog 40 #[BV b] w fun e w' => e = .returned (W b) ∧ Below w.heap.size w w' := by
  have E := Lib.hid (limbs_bits b h)
  clear h
  go_enter Tryd.func40, Tryd.ntmps40
  go_wp2
  refine bodyPost_ret (v := .agg #[.int .u64 (limb b 0), .int .u64 (limb b 1), .int .u64 0, .int .u64 0, .int .u64 0, .int .u64 0]) (by simp [results, Tryd.results40, go_sem]) rfl ⟨by rw [W, E.out], ?_⟩
  exact ((Below.refl _ _).alloc (Nat.le_refl _) _).alloc (by simp) _
/-- Wide.ToBits of a number of 128 bits. -/
theorem wideToBits_any (b : Nat) (w : World) (h : b < 2 ^ (64 * 2)) :
    Calls Tryd.prog 90 #[W b] w fun e w' => e = .returned (.tuple #[BV b, .bool true]) ∧ Below w.heap.size w w' := by
  rw [W, limbs_bits b h]
  clear h
  have z : (Go.bits .or .u64 (Go.bits .or .u64 (Go.bits .or .u64 0 0) 0) 0 != 0) = false := by decide +kernel
  go_enter Tryd.func90, Tryd.ntmps90
  go_wp2
  refine bodyPost_ret (v := .tuple #[BV b, .bool true]) (by simp [results, Tryd.results90, go_sem]) rfl ⟨rfl, ?_⟩
  exact ((Below.refl _ _).alloc (Nat.le_refl _) _).alloc (by simp) _
theorem bit_limb (a i : Nat) : (Go.bits .and .u64 (limb a (i / 64) / 2 ^ (i % 64)) 1 == 1) = a.testBit i := by
  have q0 : limb a (i / 64) / 2 ^ (i % 64) = ((limbN a (i / 64) / 2 ^ (i % 64) : Nat) : Int) := by unfold limb; simp
  have q1 : limbN a (i / 64) / 2 ^ (i % 64) ≤ limbN a (i / 64) := Nat.div_le_self _ _
  have q2 := limbN_lt a (i / 64)
  rw [q0, show (1 : Int) = ((1 : Nat) : Int) from rfl, u64_and_nat _ _ (by omega) (by decide), nat_mask1, ← limb_bit, Nat.testBit_eq_decide_div_mod_eq]
  generalize limbN a (i / 64) / 2 ^ (i % 64) = z
  rw [Bool.eq_iff_iff]; simp; omega
set_option maxHeartbeats 800000 in
set_option maxRecDepth 100000 in
theorem wideBit_in (a i : Nat) (w : World) (h : i < 384) :
    Calls Tryd.prog 39 #[W a, .int .i64 i] w fun e w' => e = .returned (.bool (a.testBit i)) ∧ Below w.heap.size w w' := by
  have sa := limbs_size a
  have cj : ∀ w : World, Blk 54 (w.alloc (.cells (limbs a) 54)) w.heap.size (limbs a) := fun w => Blk.new w _
  have c := (cj w).cell (i / 64) (limbs_get a (i / 64) (by omega))
  have R := Lib.hid (bit_limb a i)
  obtain ⟨j, hj⟩ : ∃ j, i / 64 = j := ⟨_, rfl⟩
  obtain ⟨s, hs⟩ : ∃ s, i % 64 = s := ⟨_, rfl⟩
  rw [hj] at c R
  rw [hs] at R
  have hj' : (i : Int) / 64 = (j : Int) := by omega
  have hs' : (i : Int) % 64 = (s : Int) := by omega
  have j6 : j < 6 := by omega
  have s64 : s < 64 := by omega
  rw [← R.out]
  clear cj R
  go_enter Tryd.func39, Tryd.ntmps39
  go_wp2
  go_ret
  exact ⟨rfl, (Below.refl _ _).alloc (Nat.le_refl _) _⟩
theorem wideBit_out (a : Nat) (i : Int) (w : World) (h : i < 0 ∨ 384 ≤ i) :
    Calls Tryd.prog 39 #[W a, .int .i64 i] w fun e w' => e = .returned (.bool false) ∧ Below w.heap.size w w' := by
  have sa := limbs_size a
  rcases h with h | h
  · go_enter Tryd.func39, Tryd.ntmps39
    go_wp2
    go_ret
    exact ⟨rfl, (Below.refl _ _).alloc (Nat.le_refl _) _⟩
  · have h0 : 0 ≤ i := by omega
    go_enter Tryd.func39, Tryd.ntmps39
    go_wp2
    go_ret
    exact ⟨rfl, (Below.refl _ _).alloc (Nat.le_refl _) _⟩
/-- The bit at a place; none beyond the word's ends. -/
def bitI (a : Nat) (i : Int) : Bool := decide (0 ≤ i) && (decide (i < 384) && a.testBit i.toNat)
theorem wideBit_any (a : Nat) (i : Int) (w : World) :
    Calls Tryd.prog 39 #[W a, .int .i64 i] w fun e w' => e = .returned (.bool (bitI a i)) ∧ Below w.heap.size w w' := by
  by_cases h : i < 0 ∨ 384 ≤ i
  · rw [show bitI a i = false by unfold bitI; rcases h with h | h <;> simp <;> omega]
    exact wideBit_out a i w h
  · obtain ⟨n, rfl⟩ := Int.eq_ofNat_of_zero_le (show 0 ≤ i by omega)
    rw [show bitI a (n : Int) = a.testBit n by unfold bitI; simp; omega]
    exact wideBit_in a n w (by omega)
end Go.Proofs.YtdcgcjmajacgiaaDoor

namespace Go.Proofs.YtdcgcjmajacgiaaDoor
open Go.RowKit
/-- A word of what is shifted to the right by 64 q + s. -/
theorem limbN_right (a q s i : Nat) (hs : s ≤ 64) : limbN (a / 2 ^ (64 * q + s)) i = limbN a (i + q + 1) * 2 ^ (64 - s) % 18446744073709551616 + limbN a (i + q) / 2 ^ s := by
  have e : a / 2 ^ (64 * q + s) / 2 ^ (64 * i) = a / 2 ^ (64 * (i + q)) / 2 ^ s := by
    rw [Nat.div_div_eq_div_mul, Nat.div_div_eq_div_mul, ← Nat.pow_add, ← Nat.pow_add]
    congr 2; omega
  unfold limbN
  rw [e, cat_word _ s hs, Nat.div_div_eq_div_mul, show 64 * (i + q + 1) = 64 * (i + q) + 64 by omega, Nat.pow_add, ← B64]
theorem pw_mono (j i : Nat) (h : j ≤ i) : 2 ^ (64 * j) ≤ 2 ^ (64 * i) := Nat.pow_le_pow_right (by decide) (Nat.mul_le_mul_left 64 h)
theorem high_zero (a i : Nat) (h : a < top6) (hi : 6 ≤ i) : limbN a i = 0 := by
  unfold top6 at h
  unfold limbN
  rw [Nat.div_eq_of_lt (Nat.lt_of_lt_of_le h (pw_mono 6 i hi))]
theorem limb_shr (a i s : Nat) : limb a i / 2 ^ s = ((limbN a i / 2 ^ s : Nat) : Int) := by unfold limb; simp
/-- The words as the text puts them together. -/
theorem right_or (a q s i : Nat) (hs : s < 64) (h : i + q < 5) :
    Go.bits .or .u64 (limb a (i + q) / 2 ^ s) (IntKind.u64.wrap (limb a (i + q + 1) * 2 ^ (64 - s))) = limb (a / 2 ^ (64 * q + s)) i := by
  have h1 : IntKind.u64.wrap (limb a (i + q + 1) * 2 ^ (64 - s)) = ((limbN a (i + q + 1) * 2 ^ (64 - s) % 18446744073709551616 : Nat) : Int) := by
    rw [IntKind.wrap_u64]; unfold limb; simp
  have h2 : limbN a (i + q) / 2 ^ s < 2 ^ (64 - s) := by
    rw [Nat.div_lt_iff_lt_mul (Nat.two_pow_pos s), ← Nat.pow_add, show 64 - s + s = 64 by omega, ← B64]; exact limbN_lt _ _
  have h3 : limbN a (i + q) / 2 ^ s < 18446744073709551616 := Nat.lt_of_le_of_lt (Nat.div_le_self _ _) (limbN_lt _ _)
  have h4 : limbN a (i + q + 1) * 2 ^ (64 - s) % 18446744073709551616 < 18446744073709551616 := Nat.mod_lt _ (by decide)
  have h5 : limbN a (i + q + 1) * 2 ^ (64 - s) % 18446744073709551616 % 2 ^ (64 - s) = 0 := by
    rw [show (18446744073709551616 : Nat) = 2 ^ (64 - s) * 2 ^ s by rw [← Nat.pow_add, show 64 - s + s = 64 by omega], Nat.mod_mul_right_mod, Nat.mul_mod_left]
  rw [limb_shr, h1, u64_or_nat _ _ h3 h4, Nat.or_comm, nat_join (64 - s) _ _ h5 h2]
  unfold limb
  rw [limbN_right a q s i (by omega)]
theorem right_last (a q s i : Nat) (hs : s < 64) (ha : a < top6) (h : i + q = 5) : limb a (i + q) / 2 ^ s = limb (a / 2 ^ (64 * q + s)) i := by
  rw [limb_shr]
  unfold limb
  rw [limbN_right a q s i (by omega), high_zero a (i + q + 1) ha (by omega)]
  simp
theorem right_zero (a q s i : Nat) (hs : s < 64) (ha : a < top6) (h : 6 ≤ i + q) : limb (a / 2 ^ (64 * q + s)) i = 0 := by
  unfold limb
  rw [limbN_right a q s i (by omega), high_zero a (i + q + 1) ha (by omega), high_zero a (i + q) ha h]
  simp
def lostR (a n : Nat) : Bool := !decide (a = 0) && decide (lowN a < n)
theorem limbs_fill0 (f : Nat → Value) (k : Nat) : (fillTo (limbs 0) f k).size = 6 := by rw [fillTo_size]; rfl
theorem set2 (cs : Array Value) (k : Nat) (v : Value) (x y : Int) (h : x = y) : (cs.setIfInBounds k v).setIfInBounds k (.int .u64 x) = cs.setIfInBounds k (.int .u64 y) := by
  rw [h, Array.setIfInBounds_setIfInBounds]
/-- Words that are written no more are 0 already. -/
theorem fill_rest (a q s k : Nat) (hs : s < 64) (ha : a < top6) (hk : k ≤ 6) (h : 6 ≤ k + q) :
    fillTo (limbs 0) (fun i => .int .u64 (limb (a / 2 ^ (64 * q + s)) i)) k = limbs (a / 2 ^ (64 * q + s)) := by
  apply Array.ext_getElem?
  intro j
  by_cases hj : j < 6
  · rw [limbs_get _ j hj]
    by_cases hjk : j < k
    · exact fillTo_lo _ _ k j hjk (by rw [limbs_size]; exact hj)
    · rw [fillTo_hi _ _ k j (by omega), limbs_get 0 j hj, right_zero a q s j hs ha (by omega)]
      unfold limb limbN; rw [Nat.zero_div]; rfl
  · rw [Array.getElem?_eq_none (by rw [fillTo_size, limbs_size]; omega), Array.getElem?_eq_none (by rw [limbs_size]; omega)]
set_option maxHeartbeats 6400000 in
set_option maxRecDepth 100000 in
theorem wideRight_q (a n q s : Nat) (x : Int) (w : World) (ha : a < top6) (hc : min (max x 0) 384 = (n : Int)) (hq : (n : Int) / 64 = (q : Int)) (hs : (n : Int) % 64 = (s : Int)) (hT : Tab w) :
    Calls Tryd.prog 101 #[W a, .int .i64 x] w fun e w' => e = .returned (.tuple #[W (a / 2 ^ (64 * q + s)), .bool (lostR a n)]) ∧ Below w.heap.size w w' := by
  have sa := limbs_size a
  obtain ⟨z, hz⟩ : ∃ z, decide (a = 0) = z := ⟨_, rfl⟩
  have eq0 := fun w => (run_equal_zero w a ha).trans (by rw [hz])
  have hn : n ≤ 384 := by omega
  have s64 : s < 64 := by omega
  have q6 : q ≤ 6 := by omega
  have HA := Lib.hid ha
  have HT := Lib.hid hT
  obtain ⟨l, l1⟩ : ∃ l, decide (lowN a < n) = l := ⟨_, rfl⟩
  have l2 : decide ((lowN a : Int) < (n : Int)) = l := by rw [← l1, Bool.eq_iff_iff, decide_eq_true_iff, decide_eq_true_iff]; omega
  have HL := Lib.hid (show lostR a n = (!z && l) by unfold lostR; rw [hz, l1])
  clear ha hT hz
  cases z
  · go_enter Tryd.func101, Tryd.ntmps101
    go_wp2_with fail
    refine (wideCount_any _ _).mono ?_
    rw [hc]
    rintro e w' ⟨rfl, rfl⟩
    go_wp2_with fail
    refine (wideLow_any a _ HA.out (HT.out.below (((Below.refl _ _).alloc (Nat.le_refl _) _).alloc (by simp) _))).mono ?_
    rintro e w1 ⟨rfl, hb1⟩
    go_wp2_with fail

    simp only [hs]
    go_loopw [8] (fun i wr => ∃ k : Nat, k ≤ 6 ∧ i = .int .i64 k ∧ Blk 54 wr w.heap.size (limbs a) ∧
      Blk 54 wr (w.heap.size + 1) (fillTo (limbs 0) (fun i => .int .u64 (limb (a / 2 ^ (64 * q + s)) i)) k) ∧ Below w.heap.size w wr) (fun i _ => 6 - (intOf i).toNat)
    case atStart =>
      refine ⟨0, by omega, rfl, ?_, ?_, ?_⟩
      · have := ((Blk.new (T := 54) w (limbs a)).alloc (.cells #[.int .u64 0, .int .u64 0, .int .u64 0, .int .u64 0, .int .u64 0, .int .u64 0] 54)).below hb1 (by simp <;> omega)
        simpa using this
      · rw [fillTo, limbs_zero]
        have := (Blk.new (T := 54) (w.alloc (.cells (limbs a) 54)) #[.int .u64 0, .int .u64 0, .int .u64 0, .int .u64 0, .int .u64 0, .int .u64 0]).below hb1 (by simp)
        simpa using this
      · exact (((Below.refl _ _).alloc (Nat.le_refl _) _).alloc (by simp) _).trans (hb1.mono (by simp <;> omega))
    case round =>
      obtain ⟨k, hk, rfl, ha, hs', hbel⟩ := hrel
      by_cases hlt : k + q < 6
      · have ca := ha.cell (k + q) (limbs_get a (k + q) hlt)
        have fb := hs'.free k
        have cb0 := hs'.cell k ((fillTo_hi _ _ k k (Nat.le_refl _)).trans (limbs_get 0 k (by omega)))
        by_cases hl5 : k + q < 5
        · have b2 := hs'.set k (.int .u64 (limb a (k + q) / 2 ^ s)) rfl
          have cb := b2.cell k (v := .int .u64 (limb a (k + q) / 2 ^ s)) (by rw [Array.getElem?_setIfInBounds, if_pos rfl, if_pos (by rw [limbs_fill0]; omega)])
          have fb2 := b2.free k
          have ca2 := (ha.other ⟨w.heap.size + 1, k, none⟩ (.int .u64 (limb a (k + q) / 2 ^ s)) (by simp)).cell (k + q + 1) (limbs_get a (k + q + 1) (by omega))
          have i1 : (k : Int) + (q : Int) + 1 < 6 := by omega
          have i0 : (0 : Int) ≤ (k : Int) + (q : Int) + 1 := by omega
          have iw : IntKind.i64.wrap ((k : Int) + (q : Int) + 1) = (k : Int) + (q : Int) + 1 := IntWalk.i64_in _ (by omega)
          have iv : IntKind.i64.wrap ((k : Int) + (q : Int)) = (k : Int) + (q : Int) := IntWalk.i64_in _ (by omega)
          have it : ((k : Int) + (q : Int) + 1).toNat = k + q + 1 := by omega
          clear b2
          go_wp2_with fail
          go_region_with (fail)
          all_goals go_wp2
          all_goals
            go_roundw
            case rel => exact ⟨k + 1, by omega, by go_num, ((ha.other _ _ (by simp)).other _ _ (by simp)).drew, ((hs'.set k _ rfl).set k _ (set2 _ _ _ _ _ (right_or a q s k s64 hl5))).drew, ((hbel.setCell (by simp) _).setCell (by simp) _).drew⟩
            case measure => simp [intOf]; omega
        · have b5 : ¬ (k : Int) + (q : Int) < 5 := by omega
          go_wp2_with fail
          go_roundw
          case rel => exact ⟨k + 1, by omega, by go_num, ha.other _ _ (by simp), hs'.set k _ (by rw [right_last a q s k s64 HA.out (by omega)]; rfl), hbel.setCell (by simp) _⟩
          case measure => simp [intOf]; omega
      · have F := fill_rest a q s k s64 HA.out hk (by omega)
        rw [F] at hs'
        obtain ⟨c0, c1, c2, c3, c4, c5⟩ := hs'.six
        obtain ⟨f0, f1, f2, f3, f4, f5⟩ := hs'.six_free
        clear F
        go_wp2_with fail
        rw [hs'.keep 0 _ (limbs_get _ 0 (by decide)), hs'.keep 1 _ (limbs_get _ 1 (by decide)), hs'.keep 2 _ (limbs_get _ 2 (by decide)), hs'.keep 3 _ (limbs_get _ 3 (by decide)), hs'.keep 4 _ (limbs_get _ 4 (by decide)), hs'.keep 5 _ (limbs_get _ 5 (by decide))]
        exact bodyPost_ret (v := .tuple #[W (a / 2 ^ (64 * q + s)), .bool _]) (by simp [results, Tryd.results101, go_sem, c0, c1, c2, c3, c4, c5, limbs]; rfl) rfl ⟨by rw [HL.out]; rfl, hbel⟩

  · go_enter Tryd.func101, Tryd.ntmps101
    go_wp2_with fail
    refine (wideCount_any _ _).mono ?_
    rw [hc]
    rintro e w' ⟨rfl, rfl⟩
    go_wp2_with fail

    simp only [hs]
    go_loopw [8] (fun i wr => ∃ k : Nat, k ≤ 6 ∧ i = .int .i64 k ∧ Blk 54 wr w.heap.size (limbs a) ∧
      Blk 54 wr (w.heap.size + 1) (fillTo (limbs 0) (fun i => .int .u64 (limb (a / 2 ^ (64 * q + s)) i)) k) ∧ Below w.heap.size w wr) (fun i _ => 6 - (intOf i).toNat)
    case atStart =>
      refine ⟨0, by omega, rfl, ?_, ?_, ?_⟩
      · have := (Blk.new (T := 54) w (limbs a)).alloc (.cells #[.int .u64 0, .int .u64 0, .int .u64 0, .int .u64 0, .int .u64 0, .int .u64 0] 54)
        simpa using this
      · rw [fillTo, limbs_zero]
        have := Blk.new (T := 54) (w.alloc (.cells (limbs a) 54)) #[.int .u64 0, .int .u64 0, .int .u64 0, .int .u64 0, .int .u64 0, .int .u64 0]
        simpa using this
      · exact ((Below.refl _ _).alloc (Nat.le_refl _) _).alloc (by simp) _
    case round =>
      obtain ⟨k, hk, rfl, ha, hs', hbel⟩ := hrel
      by_cases hlt : k + q < 6
      · have ca := ha.cell (k + q) (limbs_get a (k + q) hlt)
        have fb := hs'.free k
        have cb0 := hs'.cell k ((fillTo_hi _ _ k k (Nat.le_refl _)).trans (limbs_get 0 k (by omega)))
        by_cases hl5 : k + q < 5
        · have b2 := hs'.set k (.int .u64 (limb a (k + q) / 2 ^ s)) rfl
          have cb := b2.cell k (v := .int .u64 (limb a (k + q) / 2 ^ s)) (by rw [Array.getElem?_setIfInBounds, if_pos rfl, if_pos (by rw [limbs_fill0]; omega)])
          have fb2 := b2.free k
          have ca2 := (ha.other ⟨w.heap.size + 1, k, none⟩ (.int .u64 (limb a (k + q) / 2 ^ s)) (by simp)).cell (k + q + 1) (limbs_get a (k + q + 1) (by omega))
          have i1 : (k : Int) + (q : Int) + 1 < 6 := by omega
          have i0 : (0 : Int) ≤ (k : Int) + (q : Int) + 1 := by omega
          have iw : IntKind.i64.wrap ((k : Int) + (q : Int) + 1) = (k : Int) + (q : Int) + 1 := IntWalk.i64_in _ (by omega)
          have iv : IntKind.i64.wrap ((k : Int) + (q : Int)) = (k : Int) + (q : Int) := IntWalk.i64_in _ (by omega)
          have it : ((k : Int) + (q : Int) + 1).toNat = k + q + 1 := by omega
          clear b2
          go_wp2_with fail
          go_region_with (fail)
          all_goals go_wp2
          all_goals
            go_roundw
            case rel => exact ⟨k + 1, by omega, by go_num, ((ha.other _ _ (by simp)).other _ _ (by simp)).drew, ((hs'.set k _ rfl).set k _ (set2 _ _ _ _ _ (right_or a q s k s64 hl5))).drew, ((hbel.setCell (by simp) _).setCell (by simp) _).drew⟩
            case measure => simp [intOf]; omega
        · have b5 : ¬ (k : Int) + (q : Int) < 5 := by omega
          go_wp2_with fail
          go_roundw
          case rel => exact ⟨k + 1, by omega, by go_num, ha.other _ _ (by simp), hs'.set k _ (by rw [right_last a q s k s64 HA.out (by omega)]; rfl), hbel.setCell (by simp) _⟩
          case measure => simp [intOf]; omega
      · have F := fill_rest a q s k s64 HA.out hk (by omega)
        rw [F] at hs'
        obtain ⟨c0, c1, c2, c3, c4, c5⟩ := hs'.six
        obtain ⟨f0, f1, f2, f3, f4, f5⟩ := hs'.six_free
        clear F
        go_wp2_with fail
        rw [hs'.keep 0 _ (limbs_get _ 0 (by decide)), hs'.keep 1 _ (limbs_get _ 1 (by decide)), hs'.keep 2 _ (limbs_get _ 2 (by decide)), hs'.keep 3 _ (limbs_get _ 3 (by decide)), hs'.keep 4 _ (limbs_get _ 4 (by decide)), hs'.keep 5 _ (limbs_get _ 5 (by decide))]
        exact bodyPost_ret (v := .tuple #[W (a / 2 ^ (64 * q + s)), .bool _]) (by simp [results, Tryd.results101, go_sem, c0, c1, c2, c3, c4, c5, limbs]; rfl) rfl ⟨by rw [HL.out]; rfl, hbel⟩
end Go.Proofs.YtdcgcjmajacgiaaDoor

namespace Go.Proofs.YtdcgcjmajacgiaaDoor
open Go.RowKit
theorem limbN_left0 (a q s : Nat) : limbN (a * 2 ^ (64 * q + s)) q = limbN a 0 * 2 ^ s % 18446744073709551616 := by
  unfold limbN
  rw [Nat.pow_add, ← Nat.mul_assoc, Nat.mul_right_comm, Nat.mul_div_cancel _ (pw_pos q), Nat.mul_zero, Nat.pow_zero, Nat.div_one]
  rw [Nat.mod_mul_mod]
theorem limbN_left (a q s j : Nat) (hs : s ≤ 64) : limbN (a * 2 ^ (64 * q + s)) (q + j + 1) = limbN a (j + 1) * 2 ^ s % 18446744073709551616 + limbN a j / 2 ^ (64 - s) := by
  have e : a * 2 ^ (64 * q + s) / 2 ^ (64 * (q + j + 1)) = a / 2 ^ (64 * j + (64 - s)) := by
    rw [show 64 * (q + j + 1) = (64 * q + s) + (64 * j + (64 - s)) by omega, Nat.pow_add (2) (64 * q + s), ← Nat.div_div_eq_div_mul, Nat.mul_div_cancel _ (Nat.two_pow_pos _)]
  have r := limbN_right a j (64 - s) 0 (by omega)
  rw [Nat.zero_add, show 64 - (64 - s) = s by omega] at r
  rw [← r]
  unfold limbN
  rw [e, Nat.mul_zero, Nat.pow_zero, Nat.div_one]
theorem limbN_leftz (a q s i : Nat) (h : i < q) : limbN (a * 2 ^ (64 * q + s)) i = 0 := by
  unfold limbN
  rw [show 64 * q + s = 64 * i + (64 + (64 * (q - i - 1) + s)) by omega, Nat.pow_add, Nat.pow_add 2 64, Nat.mul_left_comm, Nat.mul_div_cancel_left _ (pw_pos i), Nat.mul_left_comm, ← B64, Nat.mul_mod_right]
theorem limb_shl (a i s : Nat) : IntKind.u64.wrap (limb a i * 2 ^ s) = ((limbN a i * 2 ^ s % 18446744073709551616 : Nat) : Int) := by
  rw [IntKind.wrap_u64]; unfold limb; simp
theorem left_or (a q s j : Nat) (hs : s < 64) :
    Go.bits .or .u64 (IntKind.u64.wrap (limb a (j + 1) * 2 ^ s)) (limb a j / 2 ^ (64 - s)) = limb (a * 2 ^ (64 * q + s)) (q + j + 1) := by
  have h2 : limbN a j / 2 ^ (64 - s) < 2 ^ s := by
    rw [Nat.div_lt_iff_lt_mul (Nat.two_pow_pos _), ← Nat.pow_add, show s + (64 - s) = 64 by omega, ← B64]; exact limbN_lt _ _
  have h3 : limbN a j / 2 ^ (64 - s) < 18446744073709551616 := Nat.lt_of_le_of_lt (Nat.div_le_self _ _) (limbN_lt _ _)
  have h4 : limbN a (j + 1) * 2 ^ s % 18446744073709551616 < 18446744073709551616 := Nat.mod_lt _ (by decide)
  have h5 : limbN a (j + 1) * 2 ^ s % 18446744073709551616 % 2 ^ s = 0 := by
    rw [show (18446744073709551616 : Nat) = 2 ^ s * 2 ^ (64 - s) by rw [← Nat.pow_add, show s + (64 - s) = 64 by omega], Nat.mod_mul_right_mod, Nat.mul_mod_left]
  rw [limb_shr, limb_shl, u64_or_nat _ _ h4 h3, nat_join s _ _ h5 h2]
  unfold limb
  rw [limbN_left a q s j (by omega)]
theorem left_first (a q s : Nat) : IntKind.u64.wrap (limb a 0 * 2 ^ s) = limb (a * 2 ^ (64 * q + s)) q := by
  rw [limb_shl]; unfold limb; rw [limbN_left0]
/-- The words of x from p on; 0 below. -/
def hiB (x p : Nat) : Array Value := #[.int .u64 (if p ≤ 0 then limb x 0 else 0), .int .u64 (if p ≤ 1 then limb x 1 else 0), .int .u64 (if p ≤ 2 then limb x 2 else 0), .int .u64 (if p ≤ 3 then limb x 3 else 0), .int .u64 (if p ≤ 4 then limb x 4 else 0), .int .u64 (if p ≤ 5 then limb x 5 else 0)]
theorem hiB_top (x : Nat) : hiB x 6 = #[.int .u64 0, .int .u64 0, .int .u64 0, .int .u64 0, .int .u64 0, .int .u64 0] := by unfold hiB; simp
theorem hiB_size (x p : Nat) : (hiB x p).size = 6 := rfl
theorem hiB_get (x p i : Nat) (hi : i < 6) (h : i < p) : (hiB x p)[i]? = some (.int .u64 0) := by
  have : i = 0 ∨ i = 1 ∨ i = 2 ∨ i = 3 ∨ i = 4 ∨ i = 5 := by omega
  rcases this with rfl | rfl | rfl | rfl | rfl | rfl <;> simp [hiB] <;> omega
theorem hiB_set (x p : Nat) (h : p < 6) (v : Int) (hv : v = limb x p) : (hiB x (p + 1)).setIfInBounds p (.int .u64 v) = hiB x p := by
  subst hv
  have : p = 0 ∨ p = 1 ∨ p = 2 ∨ p = 3 ∨ p = 4 ∨ p = 5 := by omega
  rcases this with rfl | rfl | rfl | rfl | rfl | rfl <;> simp [hiB]
theorem hiB_set2 (x p : Nat) (h : p < 6) (u : Value) (v : Int) (hv : v = limb x p) : ((hiB x (p + 1)).setIfInBounds p u).setIfInBounds p (.int .u64 v) = hiB x p := by
  rw [Array.setIfInBounds_setIfInBounds]; exact hiB_set x p h v hv
theorem hiB_done (x p : Nat) (h : ∀ i, i < p → limb x i = 0) : hiB x p = limbs x := by
  have e : ∀ i, (if p ≤ i then limb x i else 0) = limb x i := by
    intro i; split
    · rfl
    · rw [h i (by omega)]
  unfold hiB limbs
  rw [e, e, e, e, e, e]
def lostL (a n : Nat) : Bool := decide (384 < lenN a + n) && !decide (a = 0)
set_option maxHeartbeats 6400000 in
set_option maxRecDepth 100000 in
theorem wideLeft_q (a n q s : Nat) (x : Int) (w : World) (ha : a < top6) (hc : min (max x 0) 384 = (n : Int)) (hq : (n : Int) / 64 = (q : Int)) (hs : (n : Int) % 64 = (s : Int)) :
    Calls Tryd.prog 48 #[W a, .int .i64 x] w fun e w' => e = .returned (.tuple #[W (a * 2 ^ (64 * q + s)), .bool (lostL a n)]) ∧ Below w.heap.size w w' := by
  have sa := limbs_size a
  obtain ⟨z, hz⟩ : ∃ z, decide (a = 0) = z := ⟨_, rfl⟩
  have eq0 := fun w => (run_equal_zero w a ha).trans (by rw [hz])
  have hn : n ≤ 384 := by omega
  have s64 : s < 64 := by omega
  have q6 : q ≤ 6 := by omega
  have HA := Lib.hid ha
  obtain ⟨l, l1⟩ : ∃ l, decide (384 < lenN a + n) = l := ⟨_, rfl⟩
  have l2 : decide ((384 : Int) < (lenN a : Int) + (n : Int)) = l := by rw [← l1, Bool.eq_iff_iff, decide_eq_true_iff, decide_eq_true_iff]; omega
  have ln : (lenN a : Int) ≤ 384 := by
    have := (lenN_le a (64 * 6)).2 ha
    omega
  have HL := Lib.hid (show lostL a n = (l && !z) by unfold lostL; rw [hz, l1])
  clear ha hz
  cases l
  · go_enter Tryd.func48, Tryd.ntmps48
    go_wp2_with fail
    refine (wideCount_any _ _).mono ?_
    rw [hc]
    rintro e w' ⟨rfl, rfl⟩
    go_wp2_with fail
    refine (wideLen_any a _ HA.out).mono ?_
    rintro e w1 ⟨rfl, hb1⟩
    have ba := ((Blk.new (T := 54) w (limbs a)).alloc (.cells #[.int .u64 0, .int .u64 0, .int .u64 0, .int .u64 0, .int .u64 0, .int .u64 0] 54)).below hb1 (by simp <;> omega)
    obtain ⟨c0, c1, c2, c3, c4, c5⟩ := ba.six
    clear ba
    go_wp2_with fail
    simp only [hs]
    go_loopw [8] (fun i wr => ∃ r : Nat, q + r ≤ 6 ∧ i = .int .i64 ((q : Int) + (r : Int) - 1) ∧ Blk 54 wr w.heap.size (limbs a) ∧
      Blk 54 wr (w.heap.size + 1) (hiB (a * 2 ^ (64 * q + s)) (q + r)) ∧ Below w.heap.size w wr) (fun i _ => (intOf i + 1).toNat)
    case atStart =>
      refine ⟨6 - q, by omega, ?_, ?_, ?_, ?_⟩
      · rw [show (q : Int) + ((6 - q : Nat) : Int) - 1 = 5 by omega]
      · have := ((Blk.new (T := 54) w (limbs a)).alloc (.cells #[.int .u64 0, .int .u64 0, .int .u64 0, .int .u64 0, .int .u64 0, .int .u64 0] 54)).below hb1 (by simp <;> omega)
        simpa using this
      · rw [show q + (6 - q) = 6 by omega, hiB_top]
        have := (Blk.new (T := 54) (w.alloc (.cells (limbs a) 54)) #[.int .u64 0, .int .u64 0, .int .u64 0, .int .u64 0, .int .u64 0, .int .u64 0]).below hb1 (by simp)
        simpa using this
      · exact (((Below.refl _ _).alloc (Nat.le_refl _) _).alloc (by simp) _).trans (hb1.mono (by simp <;> omega))
    case round =>
      obtain ⟨r, hr, rfl, ha, hb, hbel⟩ := hrel
      cases r with
      | zero =>
        rw [show q + 0 = q from rfl, hiB_done _ q (fun i hi => by unfold limb; rw [limbN_leftz a q s i hi]; rfl)] at hb
        obtain ⟨d0, d1, d2, d3, d4, d5⟩ := hb.six
        obtain ⟨f0, f1, f2, f3, f4, f5⟩ := hb.six_free
        clear c0 c1 c2 c3 c4 c5
        go_wp2_with fail
        rw [hb.keep 0 _ (limbs_get _ 0 (by decide)), hb.keep 1 _ (limbs_get _ 1 (by decide)), hb.keep 2 _ (limbs_get _ 2 (by decide)), hb.keep 3 _ (limbs_get _ 3 (by decide)), hb.keep 4 _ (limbs_get _ 4 (by decide)), hb.keep 5 _ (limbs_get _ 5 (by decide))]
        exact bodyPost_ret (v := .tuple #[W (a * 2 ^ (64 * q + s)), .bool false]) (by simp [results, Tryd.results48, go_sem, d0, d1, d2, d3, d4, d5, limbs]; try rfl) rfl ⟨by rw [HL.out]; rfl, hbel⟩
      | succ j =>
        cases j with
        | zero =>
          rw [show (q : Int) + ((0 + 1 : Nat) : Int) - 1 = (q : Int) by omega]
          rw [show q + (0 + 1) = q + 1 from rfl] at hb
          have ca := ha.cell 0 (limbs_get a 0 (by omega))
          have fb := hb.free q
          have cb0 := hb.cell q (hiB_get _ _ _ (by omega) (by omega))
          have q5 : q < 6 := by omega
          clear c0 c1 c2 c3 c4 c5
          go_wp2_with fail
          go_roundw
          case rel => exact ⟨0, by omega, by go_num, ha.other _ _ (by simp), hb.set q _ (hiB_set _ q (by omega) _ (left_first a q s)), hbel.setCell (by simp) _⟩
          case measure => (simp [intOf]; try omega)
        | succ m =>
          obtain ⟨p, hp⟩ : ∃ p, p = q + m + 1 := ⟨_, rfl⟩
          rw [show (q : Int) + ((m + 1 + 1 : Nat) : Int) - 1 = (p : Int) by omega]
          rw [show q + (m + 1 + 1) = p + 1 by omega] at hb
          have p6 : p < 6 := by omega
          have qp : (q : Int) < (p : Int) := by omega
          have e1 : (p : Int) - (q : Int) = ((m + 1 : Nat) : Int) := by omega
          have e2 : (p : Int) - (q : Int) - 1 = (m : Int) := by omega
          have ca := ha.cell (m + 1) (limbs_get a (m + 1) (by omega))
          have ca2 := (ha.other ⟨w.heap.size + 1, p, none⟩ (.int .u64 (IntKind.u64.wrap (limb a (m + 1) * 2 ^ s))) (by simp)).cell m (limbs_get a m (by omega))
          have fb := hb.free p
          have cb0 := hb.cell p (hiB_get _ _ _ p6 (by omega))
          have b2 := hb.set p (.int .u64 (IntKind.u64.wrap (limb a (m + 1) * 2 ^ s))) rfl
          have cb := b2.cell p (v := .int .u64 (IntKind.u64.wrap (limb a (m + 1) * 2 ^ s))) (by rw [Array.getElem?_setIfInBounds, if_pos rfl, if_pos (by rw [hiB_size]; omega)])
          have fb2 := b2.free p
          have hm : m + 1 < 6 := by omega
          have im : (m : Int) < 6 := by omega
          have m6 : m < 6 := by omega
          have d6 : decide (m < 6) = true := by simp; omega
          have ip : (p : Int) < 6 := by omega
          have ip0 : (0 : Int) ≤ (p : Int) := by omega
          have im0 : (0 : Int) ≤ (m : Int) := by omega
          have e3 : ((m + 1 : Nat) : Int) - 1 = (m : Int) := by omega
          have e4 : (m : Int) + 1 - 1 = (m : Int) := by omega
          have v1 : IntKind.i64.wrap ((p : Int) - (q : Int)) = ((m + 1 : Nat) : Int) := by rw [e1]; exact IntWalk.i64_in _ (by omega)
          have v2 : IntKind.i64.wrap (((m + 1 : Nat) : Int) - 1) = (m : Int) := by rw [e3]; exact IntWalk.i64_in _ (by omega)
          have v3 : IntKind.i64.wrap ((m : Int) + 1 - 1) = (m : Int) := by rw [e4]; exact IntWalk.i64_in _ (by omega)
          clear b2 c0 c1 c2 c3 c4 c5
          have HP := Lib.hid hp
          clear hp
          go_wp2_with fail
          go_region
          all_goals go_wp2
          all_goals
            go_roundw
            case rel => exact ⟨m + 1, by have := HP.out; omega, by have := HP.out; simp; omega, ((ha.other _ _ (by simp)).other _ _ (by simp)).drew, by have e : q + (m + 1) = p := HP.out.symm; rw [e]; exact ((hb.set p _ rfl).set p _ (hiB_set2 _ p p6 _ _ (by rw [HP.out]; exact left_or a q s m s64))).drew, ((hbel.setCell (by simp) _).setCell (by simp) _).drew⟩
            case measure => (simp [intOf]; try omega)
  · go_enter Tryd.func48, Tryd.ntmps48
    go_wp2_with fail
    refine (wideCount_any _ _).mono ?_
    rw [hc]
    rintro e w' ⟨rfl, rfl⟩
    go_wp2_with fail
    refine (wideLen_any a _ HA.out).mono ?_
    rintro e w1 ⟨rfl, hb1⟩
    have ba := ((Blk.new (T := 54) w (limbs a)).alloc (.cells #[.int .u64 0, .int .u64 0, .int .u64 0, .int .u64 0, .int .u64 0, .int .u64 0] 54)).below hb1 (by simp <;> omega)
    obtain ⟨c0, c1, c2, c3, c4, c5⟩ := ba.six
    clear ba
    go_wp2_with fail
    simp only [hs]
    go_loopw [8] (fun i wr => ∃ r : Nat, q + r ≤ 6 ∧ i = .int .i64 ((q : Int) + (r : Int) - 1) ∧ Blk 54 wr w.heap.size (limbs a) ∧
      Blk 54 wr (w.heap.size + 1) (hiB (a * 2 ^ (64 * q + s)) (q + r)) ∧ Below w.heap.size w wr) (fun i _ => (intOf i + 1).toNat)
    case atStart =>
      refine ⟨6 - q, by omega, ?_, ?_, ?_, ?_⟩
      · rw [show (q : Int) + ((6 - q : Nat) : Int) - 1 = 5 by omega]
      · have := ((Blk.new (T := 54) w (limbs a)).alloc (.cells #[.int .u64 0, .int .u64 0, .int .u64 0, .int .u64 0, .int .u64 0, .int .u64 0] 54)).below hb1 (by simp <;> omega)
        simpa using this
      · rw [show q + (6 - q) = 6 by omega, hiB_top]
        have := (Blk.new (T := 54) (w.alloc (.cells (limbs a) 54)) #[.int .u64 0, .int .u64 0, .int .u64 0, .int .u64 0, .int .u64 0, .int .u64 0]).below hb1 (by simp)
        simpa using this
      · exact (((Below.refl _ _).alloc (Nat.le_refl _) _).alloc (by simp) _).trans (hb1.mono (by simp <;> omega))
    case round =>
      obtain ⟨r, hr, rfl, ha, hb, hbel⟩ := hrel
      cases r with
      | zero =>
        rw [show q + 0 = q from rfl, hiB_done _ q (fun i hi => by unfold limb; rw [limbN_leftz a q s i hi]; rfl)] at hb
        obtain ⟨d0, d1, d2, d3, d4, d5⟩ := hb.six
        obtain ⟨f0, f1, f2, f3, f4, f5⟩ := hb.six_free
        clear c0 c1 c2 c3 c4 c5
        go_wp2_with fail
        rw [hb.keep 0 _ (limbs_get _ 0 (by decide)), hb.keep 1 _ (limbs_get _ 1 (by decide)), hb.keep 2 _ (limbs_get _ 2 (by decide)), hb.keep 3 _ (limbs_get _ 3 (by decide)), hb.keep 4 _ (limbs_get _ 4 (by decide)), hb.keep 5 _ (limbs_get _ 5 (by decide))]
        exact bodyPost_ret (v := .tuple #[W (a * 2 ^ (64 * q + s)), .bool (!z)]) (by simp [results, Tryd.results48, go_sem, d0, d1, d2, d3, d4, d5, limbs]; try rfl) rfl ⟨by rw [HL.out]; rfl, hbel⟩
      | succ j =>
        cases j with
        | zero =>
          rw [show (q : Int) + ((0 + 1 : Nat) : Int) - 1 = (q : Int) by omega]
          rw [show q + (0 + 1) = q + 1 from rfl] at hb
          have ca := ha.cell 0 (limbs_get a 0 (by omega))
          have fb := hb.free q
          have cb0 := hb.cell q (hiB_get _ _ _ (by omega) (by omega))
          have q5 : q < 6 := by omega
          clear c0 c1 c2 c3 c4 c5
          go_wp2_with fail
          go_roundw
          case rel => exact ⟨0, by omega, by go_num, ha.other _ _ (by simp), hb.set q _ (hiB_set _ q (by omega) _ (left_first a q s)), hbel.setCell (by simp) _⟩
          case measure => (simp [intOf]; try omega)
        | succ m =>
          obtain ⟨p, hp⟩ : ∃ p, p = q + m + 1 := ⟨_, rfl⟩
          rw [show (q : Int) + ((m + 1 + 1 : Nat) : Int) - 1 = (p : Int) by omega]
          rw [show q + (m + 1 + 1) = p + 1 by omega] at hb
          have p6 : p < 6 := by omega
          have qp : (q : Int) < (p : Int) := by omega
          have e1 : (p : Int) - (q : Int) = ((m + 1 : Nat) : Int) := by omega
          have e2 : (p : Int) - (q : Int) - 1 = (m : Int) := by omega
          have ca := ha.cell (m + 1) (limbs_get a (m + 1) (by omega))
          have ca2 := (ha.other ⟨w.heap.size + 1, p, none⟩ (.int .u64 (IntKind.u64.wrap (limb a (m + 1) * 2 ^ s))) (by simp)).cell m (limbs_get a m (by omega))
          have fb := hb.free p
          have cb0 := hb.cell p (hiB_get _ _ _ p6 (by omega))
          have b2 := hb.set p (.int .u64 (IntKind.u64.wrap (limb a (m + 1) * 2 ^ s))) rfl
          have cb := b2.cell p (v := .int .u64 (IntKind.u64.wrap (limb a (m + 1) * 2 ^ s))) (by rw [Array.getElem?_setIfInBounds, if_pos rfl, if_pos (by rw [hiB_size]; omega)])
          have fb2 := b2.free p
          have hm : m + 1 < 6 := by omega
          have im : (m : Int) < 6 := by omega
          have m6 : m < 6 := by omega
          have d6 : decide (m < 6) = true := by simp; omega
          have ip : (p : Int) < 6 := by omega
          have ip0 : (0 : Int) ≤ (p : Int) := by omega
          have im0 : (0 : Int) ≤ (m : Int) := by omega
          have e3 : ((m + 1 : Nat) : Int) - 1 = (m : Int) := by omega
          have e4 : (m : Int) + 1 - 1 = (m : Int) := by omega
          have v1 : IntKind.i64.wrap ((p : Int) - (q : Int)) = ((m + 1 : Nat) : Int) := by rw [e1]; exact IntWalk.i64_in _ (by omega)
          have v2 : IntKind.i64.wrap (((m + 1 : Nat) : Int) - 1) = (m : Int) := by rw [e3]; exact IntWalk.i64_in _ (by omega)
          have v3 : IntKind.i64.wrap ((m : Int) + 1 - 1) = (m : Int) := by rw [e4]; exact IntWalk.i64_in _ (by omega)
          clear b2 c0 c1 c2 c3 c4 c5
          have HP := Lib.hid hp
          clear hp
          go_wp2_with fail
          go_region
          all_goals go_wp2
          all_goals
            go_roundw
            case rel => exact ⟨m + 1, by have := HP.out; omega, by have := HP.out; simp; omega, ((ha.other _ _ (by simp)).other _ _ (by simp)).drew, by have e : q + (m + 1) = p := HP.out.symm; rw [e]; exact ((hb.set p _ rfl).set p _ (hiB_set2 _ p p6 _ _ (by rw [HP.out]; exact left_or a q s m s64))).drew, ((hbel.setCell (by simp) _).setCell (by simp) _).drew⟩
            case measure => (simp [intOf]; try omega)
/-- What is shifted by more than the width is shifted by the width. -/
def clip (x : Int) : Nat := (min (max x 0) 384).toNat
theorem wideLeft_any (a : Nat) (x : Int) (w : World) (ha : a < top6) :
    Calls Tryd.prog 48 #[W a, .int .i64 x] w fun e w' => e = .returned (.tuple #[W (a * 2 ^ clip x), .bool (lostL a (clip x))]) ∧ Below w.heap.size w w' := by
  have e : 64 * (clip x / 64) + clip x % 64 = clip x := by omega
  have := wideLeft_q a (clip x) (clip x / 64) (clip x % 64) x w ha (by unfold clip; omega) (by omega) (by omega)
  rw [e] at this
  exact this
theorem wideRight_any (a : Nat) (x : Int) (w : World) (ha : a < top6) (hT : Tab w) :
    Calls Tryd.prog 101 #[W a, .int .i64 x] w fun e w' => e = .returned (.tuple #[W (a / 2 ^ clip x), .bool (lostR a (clip x))]) ∧ Below w.heap.size w w' := by
  have e : 64 * (clip x / 64) + clip x % 64 = clip x := by omega
  have := wideRight_q a (clip x) (clip x / 64) (clip x % 64) x w ha (by unfold clip; omega) (by omega) (by omega) hT
  rw [e] at this
  exact this
end Go.Proofs.YtdcgcjmajacgiaaDoor

namespace Go.Proofs.YtdcgcjmajacgiaaDoor
open Go.RowKit
def clip64 (x : Int) : Nat := (min (max x 0) 64).toNat
theorem clip64_le (x : Int) : clip64 x ≤ 64 := by unfold clip64; omega
set_option maxHeartbeats 1600000 in
set_option maxRecDepth 100000 in
theorem wordCount_any (x : Int) (w : World) :
    Calls Tryd.prog 125 #[.int .i64 x] w fun e w' => e = .returned (.int .u64 (clip64 x : Nat)) ∧ w = w' := by
  have h : min (max x 0) 64 = ((clip64 x : Nat) : Int) := by unfold clip64; omega
  have H := Lib.hid h
  clear h
  go_enter Tryd.func125, Tryd.ntmps125
  go_wp2
  go_ret
  exact ⟨ret_int H.out, rfl⟩
def ones (k : Nat) : Nat := 2 ^ k - 1
set_option maxHeartbeats 1600000 in
set_option maxRecDepth 100000 in
theorem wordMask_any (x : Int) (w : World) :
    Calls Tryd.prog 122 #[.int .i64 x] w fun e w' => e = .returned (.int .u64 (ones (clip64 x) : Nat)) ∧ w = w' := by
  have hc := clip64_le x
  have H : Hid (IntKind.u64.wrap (IntKind.u64.wrap (2 ^ clip64 x) - 1) = ((ones (clip64 x) : Nat) : Int)) := by
    apply Lib.hid
    have h1 : 2 ^ clip64 x ≤ (18446744073709551616 : Nat) := by rw [B64]; exact Nat.pow_le_pow_right (by decide) hc
    have h2 := Nat.two_pow_pos (clip64 x)
    rw [IntKind.wrap_u64, IntKind.wrap_u64]
    unfold ones
    have e : (2 : Int) ^ clip64 x = ((2 ^ clip64 x : Nat) : Int) := by simp
    rw [e]
    generalize 2 ^ clip64 x = y at *
    omega
  go_enter Tryd.func122, Tryd.ntmps122
  go_wp2_with fail
  refine (wordCount_any _ _).mono ?_
  rintro e w' ⟨rfl, rfl⟩
  go_wp2
  go_ret
  exact ⟨ret_int H.out, rfl⟩
theorem limbN_ones (n i : Nat) : limbN (ones n) i = ones (clip64 ((n : Int) - 64 * (i : Int))) := by
  have e : ∀ k, clip64 ((n : Int) - 64 * (i : Int)) = k ↔ k = min (n - 64 * i) 64 := by
    intro k; unfold clip64; omega
  rw [(e _).2 rfl]
  apply Nat.eq_of_testBit_eq
  intro j
  unfold limbN ones
  rw [B64, Nat.testBit_mod_two_pow, Nat.testBit_div_two_pow, Nat.testBit_two_pow_sub_one, Nat.testBit_two_pow_sub_one]
  rw [Bool.eq_iff_iff]; simp; omega
set_option maxHeartbeats 3200000 in
set_option maxRecDepth 100000 in
theorem wideMask_any (x : Int) (w : World) :
    Calls Tryd.prog 110 #[.int .i64 x] w fun e w' => e = .returned (W (ones (clip x))) ∧ Below w.heap.size w w' := by
  obtain ⟨n, hn⟩ : ∃ n, clip x = n := ⟨_, rfl⟩
  have hc : min (max x 0) 384 = (n : Int) := by unfold clip at hn; omega
  have hn4 : n ≤ 384 := by omega
  rw [hn]
  clear hn
  go_enter Tryd.func110, Tryd.ntmps110
  go_wp2_with fail
  refine (wideCount_any _ _).mono ?_
  rw [hc]
  rintro e w' ⟨rfl, rfl⟩
  go_wp2_with fail
  go_loopw [7] (fun i wr => ∃ k : Nat, k ≤ 6 ∧ i = .int .i64 k ∧ Blk 54 wr (w.heap.size + 1) (fillTo (limbs 0) (fun i => .int .u64 (limb (ones n) i)) k) ∧
      Blk 54 wr w.heap.size (limbs 0) ∧ Below w.heap.size w wr) (fun i _ => 6 - (intOf i).toNat)
  case atStart =>
    refine ⟨0, by omega, rfl, ?_, ?_, (((Below.refl _ _).alloc (Nat.le_refl _) _).alloc (by simp) _)⟩
    · have := Blk.new (T := 54) (w.alloc (.cells #[.int .u64 0, .int .u64 0, .int .u64 0, .int .u64 0, .int .u64 0, .int .u64 0] 54)) #[.int .u64 0, .int .u64 0, .int .u64 0, .int .u64 0, .int .u64 0, .int .u64 0]
      rw [fillTo, limbs_zero]
      simpa using this
    · rw [limbs_zero]
      exact (Blk.new _ _).alloc _
  case round =>
    obtain ⟨k, hk, rfl, ha, hs, hbel⟩ := hrel
    by_cases hlt : k < 6
    · have ca := ha.cell k ((fillTo_hi _ _ k k (Nat.le_refl _)).trans (limbs_get 0 k hlt))
      have fa := ha.free k
      have w1 : IntKind.i64.wrap (64 * (k : Int)) = 64 * (k : Int) := IntWalk.i64_in _ (by omega)
      have w2 : IntKind.i64.wrap ((n : Int) - 64 * (k : Int)) = (n : Int) - 64 * (k : Int) := IntWalk.i64_in _ (by omega)
      go_wp2_with fail
      refine (wordMask_any _ _).mono ?_
      rintro e w' ⟨rfl, rfl⟩
      go_wp2
      go_roundw
      case rel => exact ⟨k + 1, by omega, by go_num, ha.set k _ (by rw [← limbN_ones]; rfl), hs.other _ _ (by simp), hbel.setCell (by simp) _⟩
      case measure => simp [intOf]; omega
    · have : k = 6 := by omega
      subst this
      rw [fillTo_all (limbs 0) _ (ones n) rfl (fun i _ => rfl)] at ha
      obtain ⟨c0, c1, c2, c3, c4, c5⟩ := ha.six
      obtain ⟨d0, d1, d2, d3, d4, d5⟩ := hs.six
      obtain ⟨f0, f1, f2, f3, f4, f5⟩ := hs.six_free
      clear hlt
      go_wp2_with fail
      have hr := hs.store6 rfl (.int .u64 (limb (ones n) 0)) (.int .u64 (limb (ones n) 1)) (.int .u64 (limb (ones n) 2)) (.int .u64 (limb (ones n) 3)) (.int .u64 (limb (ones n) 4)) (.int .u64 (limb (ones n) 5))
      obtain ⟨r0, r1, r2, r3, r4, r5⟩ := Blk.six (a := ones n) hr
      exact bodyPost_ret (v := W (ones n)) (by simp only [results, Tryd.results110]; simp [go_sem, r0, r1, r2, r3, r4, r5, limbs]) rfl ⟨rfl, below_set6 hbel (by omega) _ _ _ _ _ _⟩
end Go.Proofs.YtdcgcjmajacgiaaDoor

namespace Go.Proofs.YtdcgcjmajacgiaaDoor
open Go.RowKit
set_option maxHeartbeats 1600000 in
set_option maxRecDepth 100000 in
theorem wideAnd_any (a b : Nat) (w : World) :
    Calls Tryd.prog 109 #[W a, W b] w fun e w' => e = .returned (W (a &&& b)) ∧ Below w.heap.size w w' := by
  have sa := limbs_size a
  have sb := limbs_size b
  go_enter Tryd.func109, Tryd.ntmps109
  go_wp2_with fail
  go_loopw [6] (fun i wr => ∃ k : Nat, k ≤ 6 ∧ i = .int .i64 k ∧ Blk 54 wr w.heap.size (fillTo (limbs a) (fun i => .int .u64 (limb (a &&& b) i)) k) ∧ Blk 54 wr (w.heap.size + 1) (limbs b) ∧
      Blk 54 wr (w.heap.size + 1 + 1) (limbs 0) ∧ Below w.heap.size w wr) (fun i _ => 6 - (intOf i).toNat)
  case atStart =>
    refine ⟨0, by omega, rfl, ((Blk.new w _).alloc _).alloc _, ?_, ?_, ((((Below.refl _ _).alloc (Nat.le_refl _) _).alloc (by simp) _).alloc (by simp <;> omega) _)⟩
    · have := (Blk.new (T := 54) (w.alloc (.cells (limbs a) 54)) (limbs b)).alloc (.cells #[.int .u64 0, .int .u64 0, .int .u64 0, .int .u64 0, .int .u64 0, .int .u64 0] 54)
      simpa using this
    · have := Blk.new (T := 54) ((w.alloc (.cells (limbs a) 54)).alloc (.cells (limbs b) 54)) #[.int .u64 0, .int .u64 0, .int .u64 0, .int .u64 0, .int .u64 0, .int .u64 0]
      rw [limbs_zero]
      simpa using this
  case round =>
    obtain ⟨k, hk, rfl, ha, hb, hs, hbel⟩ := hrel
    by_cases hlt : k < 6
    · have ca := ha.cell k ((fillTo_hi _ _ k k (Nat.le_refl _)).trans (limbs_get a k hlt))
      have cb := hb.cell k (limbs_get b k hlt)
      have fa := ha.free k
      go_wp2_with fail
      go_region_with (fail)
      all_goals go_wp2
      all_goals
        go_roundw
        case rel => exact ⟨k + 1, by omega, by go_num, (ha.set k _ (by rw [limb_and]; rfl)).drew, (hb.other _ _ (by simp)).drew, (hs.other _ _ (by simp; omega)).drew, (hbel.setCell (by simp) _).drew⟩
        case measure => simp [intOf]; omega
    · have : k = 6 := by omega
      subst this
      rw [fillTo_all (limbs a) _ (a &&& b) rfl (fun i _ => rfl)] at ha
      obtain ⟨c0, c1, c2, c3, c4, c5⟩ := ha.six
      obtain ⟨d0, d1, d2, d3, d4, d5⟩ := hs.six
      obtain ⟨f0, f1, f2, f3, f4, f5⟩ := hs.six_free
      clear hb hlt
      go_wp2_with fail
      have hr := hs.store6 rfl (.int .u64 (limb (a &&& b) 0)) (.int .u64 (limb (a &&& b) 1)) (.int .u64 (limb (a &&& b) 2)) (.int .u64 (limb (a &&& b) 3)) (.int .u64 (limb (a &&& b) 4)) (.int .u64 (limb (a &&& b) 5))
      obtain ⟨r0, r1, r2, r3, r4, r5⟩ := Blk.six (a := a &&& b) hr
      exact bodyPost_ret (v := W (a &&& b)) (by simp only [results, Tryd.results109]; simp [go_sem, r0, r1, r2, r3, r4, r5, limbs]) rfl ⟨rfl, below_set6 hbel (by omega) _ _ _ _ _ _⟩
end Go.Proofs.YtdcgcjmajacgiaaDoor

namespace Go.Proofs.YtdcgcjmajacgiaaDoor
open Go.RowKit
theorem pow_mono2 (b c : Nat) (h : b ≤ c) : 2 ^ b ≤ 2 ^ c := Nat.pow_le_pow_right (by decide) h
theorem pow_split (b d T : Nat) (h : T = 2 ^ b) : 2 ^ (b + d) = T * 2 ^ d := by rw [h, Nat.pow_add]
theorem top_of_pow (T b c : Nat) (h : T = 2 ^ b) (hc : b ≤ c) : T ≤ 2 ^ c := by rw [h]; exact pow_mono2 b c hc
theorem top6_le (c : Nat) (hc : 384 ≤ c) : top6 ≤ 2 ^ c := top_of_pow top6 (64 * 6) c top6.eq_1 hc
theorem mod_pow_big (a c : Nat) (h : a < top6) (hc : 384 ≤ c) : a % 2 ^ c = a := Nat.mod_eq_of_lt (Nat.lt_of_lt_of_le h (top6_le c hc))
theorem div_pow_big (a c : Nat) (h : a < top6) (hc : 384 ≤ c) : a / 2 ^ c = 0 := Nat.div_eq_of_lt (Nat.lt_of_lt_of_le h (top6_le c hc))
theorem mul_pow_big (a c : Nat) (hc : 384 ≤ c) : a * 2 ^ c % top6 = 0 := by
  obtain ⟨d, rfl⟩ : ∃ d, c = 64 * 6 + d := ⟨c - 64 * 6, by omega⟩
  rw [pow_split (64 * 6) d top6 top6.eq_1, Nat.mul_left_comm, Nat.mul_mod_right]
theorem mul_pow_big2 (a c : Nat) (hc : 384 ≤ c) : decide (top6 ≤ a * 2 ^ c) = !decide (a = 0) := by
  by_cases h0 : a = 0
  · subst h0
    have : ¬ top6 ≤ 0 := Nat.not_le.2 zero_top
    simp [this]
  · rw [decide_eq_false h0, decide_eq_true (Nat.le_trans (top6_le c hc) (Nat.le_mul_of_pos_left _ (Nat.pos_of_ne_zero h0)))]
    rfl
theorem clip_cases (x : Int) : clip x = x.toNat ∨ 384 ≤ clip x ∧ 384 ≤ x.toNat := by unfold clip; omega
theorem lostR_iff (a c : Nat) (h : a < top6) : lostR a c = !decide (a % 2 ^ c = 0) := by
  unfold lostR
  by_cases h0 : a = 0
  · subst h0; simp
  · obtain ⟨m, e, hl⟩ := lowN_spec a h h0
    generalize lowN a = l at *
    rw [decide_eq_false h0]
    by_cases hc : l < c
    · have : ¬ a % 2 ^ c = 0 := by
        intro hm
        have hd : 2 ^ c * (a / 2 ^ c) = a := by have := Nat.div_add_mod a (2 ^ c); omega
        have e2 : 2 ^ l * (2 * (2 ^ (c - l - 1) * (a / 2 ^ c))) = 2 ^ l * (2 * m + 1) := by
          rw [← e, ← Nat.mul_assoc 2, ← Nat.mul_assoc]
          have : 2 ^ l * (2 * 2 ^ (c - l - 1)) = 2 ^ c := by
            rw [show (2 : Nat) * 2 ^ (c - l - 1) = 2 ^ (c - l - 1 + 1) by rw [Nat.pow_succ, Nat.mul_comm], ← Nat.pow_add]
            congr 1; omega
          rw [this, hd]
        have := Nat.eq_of_mul_eq_mul_left (Nat.two_pow_pos l) e2
        omega
      rw [decide_eq_true hc, decide_eq_false this]; rfl
    · have : a % 2 ^ c = 0 := by
        rw [e, show l = c + (l - c) by omega, Nat.pow_add, Nat.mul_assoc, Nat.mul_mod_right]
      rw [decide_eq_false hc, decide_eq_true this]; rfl
theorem clip_min (x : Int) : clip x = min x.toNat 384 := by unfold clip; omega
theorem div_clip (a : Nat) (x : Int) (h : a < top6) : a / 2 ^ clip x = a / 2 ^ x.toNat := by
  rcases clip_cases x with e | ⟨e1, e2⟩
  · rw [e]
  · rw [div_pow_big a _ h e1, div_pow_big a _ h e2]
theorem lostR_clip (a : Nat) (x : Int) (h : a < top6) : lostR a (clip x) = !decide (a % 2 ^ x.toNat = 0) := by
  rw [lostR_iff a _ h]
  rcases clip_cases x with e | ⟨e1, e2⟩
  · rw [e]
  · rw [mod_pow_big a _ h e1, mod_pow_big a _ h e2]
theorem wideRight_n (a : Nat) (x : Int) (w : World) (ha : a < top6) (hT : Tab w) :
    Calls Tryd.prog 101 #[W a, .int .i64 x] w fun e w' => e = .returned (.tuple #[W (a / 2 ^ x.toNat), .bool (!decide (a % 2 ^ x.toNat = 0))]) ∧ Below w.heap.size w w' := by
  have := wideRight_any a x w ha hT
  rw [lostR_clip a x ha, div_clip a x ha] at this
  exact this
theorem limbs_modeq (a b : Nat) (h : a % top6 = b % top6) : limbs a = limbs b := by rw [← limbs_mod a, ← limbs_mod b, h]
theorem limbs_clip (a : Nat) (x : Int) : limbs (a * 2 ^ clip x) = limbs (a * 2 ^ x.toNat) := by
  rcases clip_cases x with e | ⟨e1, e2⟩
  · rw [e]
  · exact limbs_modeq _ _ (by rw [mul_pow_big a _ e1, mul_pow_big a _ e2])
theorem lostL_pow (a c l b T : Nat) (hT : T = 2 ^ b) (h1 : 2 ^ (l - 1) ≤ a) (h2 : a < 2 ^ l) (h3 : 1 ≤ l) : b < l + c ↔ T ≤ a * 2 ^ c := by
  subst hT
  constructor
  · intro h
    refine Nat.le_trans ?_ (Nat.mul_le_mul_right (2 ^ c) h1)
    rw [← Nat.pow_add]
    exact Nat.pow_le_pow_right (by decide) (by omega)
  · intro h
    have : a * 2 ^ c < 2 ^ (l + c) := by rw [Nat.pow_add]; exact Nat.mul_lt_mul_of_pos_right h2 (Nat.two_pow_pos c)
    exact (Nat.pow_lt_pow_iff_right (by decide)).1 (Nat.lt_of_le_of_lt h this)
theorem lostL_iff (a c : Nat) : lostL a c = decide (top6 ≤ a * 2 ^ c) := by
  unfold lostL
  by_cases h0 : a = 0
  · subst h0
    have : ¬ top6 ≤ 0 := Nat.not_le.2 zero_top
    simp [this]
  · rw [decide_eq_false h0]
    simp only [Bool.not_false, Bool.and_true]
    rw [Bool.eq_iff_iff, decide_eq_true_iff, decide_eq_true_iff]
    exact lostL_pow a c _ (64 * 6) top6 top6.eq_1 (lenN_ge a h0) (lenN_lt a) (lenN_pos a h0)
theorem lostL_clip (a : Nat) (x : Int) : lostL a (clip x) = decide (top6 ≤ a * 2 ^ x.toNat) := by
  rw [lostL_iff]
  rcases clip_cases x with e | ⟨e1, e2⟩
  · rw [e]
  · rw [mul_pow_big2 a _ e1, mul_pow_big2 a _ e2]
theorem wideLeft_n (a : Nat) (x : Int) (w : World) (ha : a < top6) :
    Calls Tryd.prog 48 #[W a, .int .i64 x] w fun e w' => e = .returned (.tuple #[W (a * 2 ^ x.toNat), .bool (decide (top6 ≤ a * 2 ^ x.toNat))]) ∧ Below w.heap.size w w' := by
  have := wideLeft_any a x w ha
  rw [lostL_clip a x] at this
  unfold W at this
  rw [limbs_clip] at this
  exact this
theorem ones_clip (x : Int) (h : x ≤ 384) : ones (clip x) = ones x.toNat := by
  rw [clip_min, Nat.min_eq_left (by omega)]
theorem and_ones (a n : Nat) : a &&& ones n = a % 2 ^ n := Nat.and_two_pow_sub_one_eq_mod a n
theorem wideMask_n (x : Int) (w : World) (hx : x ≤ 384) :
    Calls Tryd.prog 110 #[.int .i64 x] w fun e w' => e = .returned (W (ones x.toNat)) ∧ Below w.heap.size w w' := by
  have := wideMask_any x w
  rw [ones_clip x hx] at this
  exact this
theorem wideCut_n (a n : Nat) (w : World) :
    Calls Tryd.prog 109 #[W a, W (ones n)] w fun e w' => e = .returned (W (a % 2 ^ n)) ∧ Below w.heap.size w w' := by
  have := wideAnd_any a (ones n) w
  rw [and_ones] at this
  exact this
end Go.Proofs.YtdcgcjmajacgiaaDoor

namespace Go.Proofs.YtdcgcjmajacgiaaDoor
open Go.RowKit
theorem testBit_big (a n : Nat) (h : a < top6) (hn : 384 ≤ n) : a.testBit n = false := Nat.testBit_lt_two_pow (Nat.lt_of_lt_of_le h (top6_le n hn))
theorem bitI_in (a m : Nat) (h : a < top6) : bitI a (m : Int) = a.testBit m := by
  unfold bitI
  by_cases hm : m < 384
  · rw [decide_eq_true (by omega : (0 : Int) ≤ (m : Int)), decide_eq_true (by omega : (m : Int) < 384)]; simp
  · rw [testBit_big a m h (by omega), decide_eq_false (by omega : ¬ (m : Int) < 384)]; simp
theorem jam_ret {a b : Nat} {x y : Int} {u v : Bool} (h1 : a = b) (h2 : x = y) (h3 : u = v) : Ending.returned (.tuple #[W a, .int .i64 x, .bool u]) = .returned (.tuple #[W b, .int .i64 y, .bool v]) := by rw [h1, h2, h3]
@[go_sem] theorem limbs_toList (a : Nat) : (limbs a).toList = [.int .u64 (limb a 0), .int .u64 (limb a 1), .int .u64 (limb a 2), .int .u64 (limb a 3), .int .u64 (limb a 4), .int .u64 (limb a 5)] := rfl
/-- A number stored over a block of six. -/
def put6 (w : World) (g y : Nat) : World := (((((w.setCell ⟨g, 0, none⟩ (.int .u64 (limb y 0))).setCell ⟨g, 1, none⟩ (.int .u64 (limb y 1))).setCell ⟨g, 2, none⟩ (.int .u64 (limb y 2))).setCell ⟨g, 3, none⟩ (.int .u64 (limb y 3))).setCell ⟨g, 4, none⟩ (.int .u64 (limb y 4))).setCell ⟨g, 5, none⟩ (.int .u64 (limb y 5))
theorem Blk.put6 {T : TypeId} {w : World} {g : Nat} {cs : Array Value} (h : Blk T w g cs) (hs : cs.size = 6) (y : Nat) : Blk T (put6 w g y) g (limbs y) := h.store6 hs _ _ _ _ _ _
theorem Blk.put6_other {T : TypeId} {w : World} {g k : Nat} {cs : Array Value} (h : Blk T w g cs) (y : Nat) (hne : g ≠ k) : Blk T (Go.Proofs.YtdcgcjmajacgiaaDoor.put6 w k y) g cs :=
  (((((h.other _ _ hne).other _ _ hne).other _ _ hne).other _ _ hne).other _ _ hne).other _ _ hne
theorem below_put6 {B : Nat} {w0 w : World} {g : Nat} (hb : Below B w0 w) (hg : B ≤ g) (y : Nat) : Below B w0 (put6 w g y) := below_set6 hb hg _ _ _ _ _ _
theorem put6_size (w : World) (g y : Nat) : (put6 w g y).heap.size = w.heap.size := by unfold put6; simp
/-- Stored back what it has. -/
theorem Blk.again {T : TypeId} {w : World} {g y : Nat} (h : Blk T w g (limbs y)) : Go.Proofs.YtdcgcjmajacgiaaDoor.put6 w g y = w := by
  unfold Go.Proofs.YtdcgcjmajacgiaaDoor.put6
  rw [h.keep 0 _ (limbs_get _ 0 (by decide)), h.keep 1 _ (limbs_get _ 1 (by decide)), h.keep 2 _ (limbs_get _ 2 (by decide)), h.keep 3 _ (limbs_get _ 3 (by decide)), h.keep 4 _ (limbs_get _ 4 (by decide)), h.keep 5 _ (limbs_get _ 5 (by decide))]
set_option maxHeartbeats 6400000 in
set_option maxRecDepth 100000 in
theorem jamCut_in (a m : Nat) (w : World) (ha : a < top6) (hT : Tab w) (hm : m < 384) :
    Calls Tryd.prog 92 #[W a, .int .i64 ((m : Int) + 1)] w fun e w' => e = .returned (.tuple #[W (a / 2 ^ (m + 1)), .int .i64 (halfN a (m + 1)), .bool (decide (a % 2 ^ (m + 1) = 0))]) ∧ Below w.heap.size w w' := by
  have sa := limbs_size a
  have HA := Lib.hid ha
  have HT := Lib.hid hT
  obtain ⟨z, hz⟩ : ∃ z, decide (a % 2 ^ m = 0) = z := ⟨_, rfl⟩
  obtain ⟨t, ht⟩ : ∃ t, a.testBit m = t := ⟨_, rfl⟩
  obtain ⟨x, hx⟩ : ∃ x, decide (a % 2 ^ (m + 1) = 0) = x := ⟨_, rfl⟩
  have HH : Hid (halfN a (m + 1) = cond t (cond z 0 1) (-1)) := by
    apply Lib.hid
    unfold halfN
    rw [if_neg (by omega), show m + 1 - 1 = m from rfl, ht, ← hz]
    cases t <;> by_cases h : a % 2 ^ m = 0 <;> simp [h]
  have eq0 := fun w => (run_equal_zero w (a % 2 ^ m) (Nat.lt_of_le_of_lt (Nat.mod_le _ _) ha)).trans (by rw [hz])
  have eq1 : ∀ w, (Op.equalIn 10000 54 (.agg (limbs (a % 2 ^ m))) (.agg #[.int .u64 0, .int .u64 0, .int .u64 0, .int .u64 0, .int .u64 0, .int .u64 0])).run Tryd.prog w = .ok z w := eq0
  have hc : min (max ((m : Int) + 1) 0) 385 = (m : Int) + 1 := by omega
  have h0 : ((m : Int) + 1 == 0) = false := by simp; omega
  have h5 : ((m : Int) + 1 == 385) = false := by simp; omega
  have hs : IntKind.i64.wrap ((m : Int) + 1 - 1) = (m : Int) := by rw [show (m : Int) + 1 - 1 = (m : Int) by omega]; exact IntWalk.i64_in _ (by omega)
  have ms : (m : Int) + 1 - 1 = (m : Int) := by omega
  have tn : ((m : Int) + 1).toNat = m + 1 := by omega
  rw [hx]
  have HX := Lib.hid hx
  clear ha hT hx hz
  cases t
  · go_enter Tryd.func92, Tryd.ntmps92
    go_wp2_with fail
    refine (wideRight_n a _ _ HA.out (HT.out.below (((Below.refl _ _).alloc (Nat.le_refl _) _).alloc (by simp) _))).mono ?_
    rw [tn, HX.out]
    rintro e w1 ⟨rfl, hb1⟩
    have b4 : Blk 54 w1 (w.heap.size + 1) (limbs 0) := by
      rw [limbs_zero]
      have := (Blk.new (T := 54) (w.alloc (.cells (limbs a) 54)) #[.int .u64 0, .int .u64 0, .int .u64 0, .int .u64 0, .int .u64 0, .int .u64 0]).below hb1 (by simp)
      simpa using this
    have b2 : Blk 54 w1 w.heap.size (limbs a) := by
      have := ((Blk.new (T := 54) w (limbs a)).alloc (.cells #[.int .u64 0, .int .u64 0, .int .u64 0, .int .u64 0, .int .u64 0, .int .u64 0] 54)).below hb1 (by simp <;> omega)
      simpa using this
    obtain ⟨f0, f1, f2, f3, f4, f5⟩ := b4.six_free
    obtain ⟨c0, c1, c2, c3, c4, c5⟩ := b2.six
    obtain ⟨d0, d1, d2, d3, d4, d5⟩ := b4.six
    go_wp2_with fail
    refine (wideBit_any a m (put6 w1 (w.heap.size + 1) (a / 2 ^ (m + 1)))).mono ?_
    rw [bitI_in a m HA.out, ht]
    rintro e w2 ⟨rfl, hb2⟩
    have hb := (below_put6 (((((Below.refl _ _).alloc (Nat.le_refl _) _).alloc (by simp) _).trans (hb1.mono (by simp <;> omega)))) (by omega : w.heap.size ≤ w.heap.size + 1) (a / 2 ^ (m + 1))).trans (hb2.mono (by rw [put6_size]; exact Nat.le_of_lt b2.lt))
    replace b2 := (b2.put6_other (a / 2 ^ (m + 1)) (show w.heap.size ≠ w.heap.size + 1 by omega)).below hb2 (by rw [put6_size]; exact b2.lt)
    replace b4 := (b4.put6 rfl (a / 2 ^ (m + 1))).below hb2 (by rw [put6_size]; exact b4.lt)
    clear f0 f1 f2 f3 f4 f5 c0 c1 c2 c3 c4 c5 d0 d1 d2 d3 d4 d5
    clear hb1 hb2
    obtain ⟨f0, f1, f2, f3, f4, f5⟩ := b4.six_free
    obtain ⟨d0, d1, d2, d3, d4, d5⟩ := b4.six
    go_wp2_with fail
    have hk := b4.again
    unfold put6 at hk
    rw [hk]
    exact bodyPost_ret (v := .tuple #[W (a / 2 ^ (m + 1)), .int .i64 (-1), .bool x]) (by simp [results, Tryd.results92, go_sem, d0, d1, d2, d3, d4, d5, limbs]) rfl ⟨jam_ret rfl (by rw [HH.out]; rfl) rfl, hb⟩
  · go_enter Tryd.func92, Tryd.ntmps92
    go_wp2_with fail
    refine (wideRight_n a _ _ HA.out (HT.out.below (((Below.refl _ _).alloc (Nat.le_refl _) _).alloc (by simp) _))).mono ?_
    rw [tn, HX.out]
    rintro e w1 ⟨rfl, hb1⟩
    have b4 : Blk 54 w1 (w.heap.size + 1) (limbs 0) := by
      rw [limbs_zero]
      have := (Blk.new (T := 54) (w.alloc (.cells (limbs a) 54)) #[.int .u64 0, .int .u64 0, .int .u64 0, .int .u64 0, .int .u64 0, .int .u64 0]).below hb1 (by simp)
      simpa using this
    have b2 : Blk 54 w1 w.heap.size (limbs a) := by
      have := ((Blk.new (T := 54) w (limbs a)).alloc (.cells #[.int .u64 0, .int .u64 0, .int .u64 0, .int .u64 0, .int .u64 0, .int .u64 0] 54)).below hb1 (by simp <;> omega)
      simpa using this
    obtain ⟨f0, f1, f2, f3, f4, f5⟩ := b4.six_free
    obtain ⟨c0, c1, c2, c3, c4, c5⟩ := b2.six
    obtain ⟨d0, d1, d2, d3, d4, d5⟩ := b4.six
    go_wp2_with fail
    refine (wideBit_any a m (put6 w1 (w.heap.size + 1) (a / 2 ^ (m + 1)))).mono ?_
    rw [bitI_in a m HA.out, ht]
    rintro e w2 ⟨rfl, hb2⟩
    have hb := (below_put6 (((((Below.refl _ _).alloc (Nat.le_refl _) _).alloc (by simp) _).trans (hb1.mono (by simp <;> omega)))) (by omega : w.heap.size ≤ w.heap.size + 1) (a / 2 ^ (m + 1))).trans (hb2.mono (by rw [put6_size]; exact Nat.le_of_lt b2.lt))
    replace b2 := (b2.put6_other (a / 2 ^ (m + 1)) (show w.heap.size ≠ w.heap.size + 1 by omega)).below hb2 (by rw [put6_size]; exact b2.lt)
    replace b4 := (b4.put6 rfl (a / 2 ^ (m + 1))).below hb2 (by rw [put6_size]; exact b4.lt)
    clear f0 f1 f2 f3 f4 f5 c0 c1 c2 c3 c4 c5 d0 d1 d2 d3 d4 d5
    clear hb1 hb2
    obtain ⟨f0, f1, f2, f3, f4, f5⟩ := b4.six_free
    obtain ⟨d0, d1, d2, d3, d4, d5⟩ := b4.six
    obtain ⟨c0, c1, c2, c3, c4, c5⟩ := b2.six
    go_wp2_with fail
    have l2 := b2.lt
    have m4 : (m : Int) ≤ 384 := by omega
    have wm : IntKind.i64.wrap (m : Int) = (m : Int) := IntWalk.i64_in _ (by omega)
    have b2 := b2.drew
    have hb := hb.drew
    clear hm ms tn h0 h5 hc
    go_region_held3 (fun w' => w'.cell? ⟨w.heap.size, 0, none⟩ = some (.int .u64 (limb a 0)) ∧ w'.cell? ⟨w.heap.size, 1, none⟩ = some (.int .u64 (limb a 1)) ∧ w'.cell? ⟨w.heap.size, 2, none⟩ = some (.int .u64 (limb a 2)) ∧ w'.cell? ⟨w.heap.size, 3, none⟩ = some (.int .u64 (limb a 3)) ∧ w'.cell? ⟨w.heap.size, 4, none⟩ = some (.int .u64 (limb a 4)) ∧ w'.cell? ⟨w.heap.size, 5, none⟩ = some (.int .u64 (limb a 5))) (first | exact ⟨c0, c1, c2, c3, c4, c5⟩ | exact ⟨g0, g1, g2, g3, g4, g5⟩ | exact ⟨k0, k1, k2, k3, k4, k5⟩)
      (first
      | (go_at_call 110; refine (wideMask_n (m : Int) _ m4).mono ?_; rw [Int.toNat_natCast]; rintro e w3 ⟨rfl, hb3⟩; obtain ⟨g0, g1, g2, g3, g4, g5⟩ := (b2.below hb3 b2.lt).six)
      | (go_at_call 109; refine (wideCut_n a m _).mono ?_; rintro e w4 ⟨rfl, hb4⟩; obtain ⟨k0, k1, k2, k3, k4, k5⟩ := ((b2.below hb3 b2.lt).below hb4 (b2.below hb3 b2.lt).lt).six))
    all_goals
      replace hb := (hb.trans (hb3.mono (Nat.le_of_lt b2.lt))).trans (hb4.mono (Nat.le_of_lt (b2.below hb3 b2.lt).lt))
      replace b4 := ((b4.drew.below hb3 b4.lt).below hb4 (b4.drew.below hb3 b4.lt).lt)
      clear f0 f1 f2 f3 f4 f5 d0 d1 d2 d3 d4 d5 c0 c1 c2 c3 c4 c5 g0 g1 g2 g3 g4 g5 k0 k1 k2 k3 k4 k5 hb3 hb4
      obtain ⟨f0, f1, f2, f3, f4, f5⟩ := b4.six_free
      obtain ⟨d0, d1, d2, d3, d4, d5⟩ := b4.six
      cases z
      · go_wp2_with fail
        have hk := b4.again
        unfold put6 at hk
        rw [hk]
        exact bodyPost_ret (v := .tuple #[W (a / 2 ^ (m + 1)), .int .i64 1, .bool x]) (by simp [results, Tryd.results92, go_sem, d0, d1, d2, d3, d4, d5, limbs]) rfl ⟨jam_ret rfl (by rw [HH.out]; rfl) rfl, hb⟩
      · go_wp2_with fail
        have hk := b4.again
        unfold put6 at hk
        rw [hk]
        exact bodyPost_ret (v := .tuple #[W (a / 2 ^ (m + 1)), .int .i64 0, .bool x]) (by simp [results, Tryd.results92, go_sem, d0, d1, d2, d3, d4, d5, limbs]) rfl ⟨jam_ret rfl (by rw [HH.out]; rfl) rfl, hb⟩
end Go.Proofs.YtdcgcjmajacgiaaDoor

namespace Go.Proofs.YtdcgcjmajacgiaaDoor
open Go.RowKit
theorem wideRight_zero (a : Nat) (w : World) (ha : a < top6) (hT : Tab w) :
    Calls Tryd.prog 101 #[W a, .int .i64 0] w fun e w' => e = .returned (.tuple #[W a, .bool false]) ∧ Below w.heap.size w w' := by
  have := wideRight_n a 0 w ha hT
  rw [show (0 : Int).toNat = 0 from rfl, Nat.pow_zero, Nat.div_one, Nat.mod_one, decide_eq_true rfl] at this
  exact this
theorem wideRight_big (a : Nat) (w : World) (ha : a < top6) (hT : Tab w) :
    Calls Tryd.prog 101 #[W a, .int .i64 385] w fun e w' => e = .returned (.tuple #[W 0, .bool (!decide (a = 0))]) ∧ Below w.heap.size w w' := by
  obtain ⟨x, hx⟩ : ∃ x : Int, x = 385 := ⟨_, rfl⟩
  have := wideRight_n a x w ha hT
  rw [div_pow_big a _ ha (by omega), mod_pow_big a _ ha (by omega), hx] at this
  exact this
set_option maxHeartbeats 6400000 in
set_option maxRecDepth 100000 in
theorem jamCut_zero (a : Nat) (x : Int) (w : World) (ha : a < top6) (hT : Tab w) (hc : min (max x 0) 385 = 0) :
    Calls Tryd.prog 92 #[W a, .int .i64 x] w fun e w' => e = .returned (.tuple #[W (a), .int .i64 (-1), .bool (true)]) ∧ Below w.heap.size w w' := by
  have sa := limbs_size a
  have HA := Lib.hid ha
  have HT := Lib.hid hT
  clear ha hT
  go_enter Tryd.func92, Tryd.ntmps92
  go_wp2_with fail
  refine (wideRight_zero a _ HA.out (HT.out.below (((Below.refl _ _).alloc (Nat.le_refl _) _).alloc (by simp) _))).mono ?_
  rintro e w1 ⟨rfl, hb1⟩
  have b4 : Blk 54 w1 (w.heap.size + 1) (limbs 0) := by
    rw [limbs_zero]
    have := (Blk.new (T := 54) (w.alloc (.cells (limbs a) 54)) #[.int .u64 0, .int .u64 0, .int .u64 0, .int .u64 0, .int .u64 0, .int .u64 0]).below hb1 (by simp)
    simpa using this
  obtain ⟨f0, f1, f2, f3, f4, f5⟩ := b4.six_free
  obtain ⟨d0, d1, d2, d3, d4, d5⟩ := b4.six
  go_upto_region 3 with (fail)
  have hb := below_put6 (((((Below.refl w.heap.size w).alloc (Nat.le_refl _) _).alloc (by simp) _).trans (hb1.mono (by simp <;> omega)))) (by omega : w.heap.size ≤ w.heap.size + 1) (a)
  replace b4 := b4.put6 rfl (a)
  clear f0 f1 f2 f3 f4 f5 d0 d1 d2 d3 d4 d5 hb1
  change Code.wp _ _ _ _ (put6 w1 (w.heap.size + 1) (a))
  generalize put6 w1 (w.heap.size + 1) (a) = u at *
  obtain ⟨f0, f1, f2, f3, f4, f5⟩ := b4.six_free
  obtain ⟨d0, d1, d2, d3, d4, d5⟩ := b4.six
  go_wp2_with fail
  have hk := b4.again
  unfold put6 at hk
  rw [hk]
  exact bodyPost_ret (v := .tuple #[W (a), .int .i64 (-1), .bool (true)]) (by simp [results, Tryd.results92, go_sem, d0, d1, d2, d3, d4, d5, limbs]) rfl ⟨rfl, hb⟩
set_option maxHeartbeats 6400000 in
set_option maxRecDepth 100000 in
theorem jamCut_big (a : Nat) (x : Int) (w : World) (ha : a < top6) (hT : Tab w) (hc : min (max x 0) 385 = 385) :
    Calls Tryd.prog 92 #[W a, .int .i64 x] w fun e w' => e = .returned (.tuple #[W (0), .int .i64 (-1), .bool (decide (a = 0))]) ∧ Below w.heap.size w w' := by
  have sa := limbs_size a
  have HA := Lib.hid ha
  have HT := Lib.hid hT
  obtain ⟨z, hz⟩ : ∃ z, decide (a = 0) = z := ⟨_, rfl⟩
  rw [hz]
  clear ha hT
  go_enter Tryd.func92, Tryd.ntmps92
  go_wp2_with fail
  refine (wideRight_big a _ HA.out (HT.out.below (((Below.refl _ _).alloc (Nat.le_refl _) _).alloc (by simp) _))).mono ?_
  rw [hz]
  rintro e w1 ⟨rfl, hb1⟩
  have b4 : Blk 54 w1 (w.heap.size + 1) (limbs 0) := by
    rw [limbs_zero]
    have := (Blk.new (T := 54) (w.alloc (.cells (limbs a) 54)) #[.int .u64 0, .int .u64 0, .int .u64 0, .int .u64 0, .int .u64 0, .int .u64 0]).below hb1 (by simp)
    simpa using this
  obtain ⟨f0, f1, f2, f3, f4, f5⟩ := b4.six_free
  obtain ⟨d0, d1, d2, d3, d4, d5⟩ := b4.six
  go_upto_region 3 with (fail)
  have hb := below_put6 (((((Below.refl w.heap.size w).alloc (Nat.le_refl _) _).alloc (by simp) _).trans (hb1.mono (by simp <;> omega)))) (by omega : w.heap.size ≤ w.heap.size + 1) (0)
  replace b4 := b4.put6 rfl (0)
  clear f0 f1 f2 f3 f4 f5 d0 d1 d2 d3 d4 d5 hb1
  change Code.wp _ _ _ _ (put6 w1 (w.heap.size + 1) (0))
  generalize put6 w1 (w.heap.size + 1) (0) = u at *
  obtain ⟨f0, f1, f2, f3, f4, f5⟩ := b4.six_free
  obtain ⟨d0, d1, d2, d3, d4, d5⟩ := b4.six
  go_wp2_with fail
  have hk := b4.again
  unfold put6 at hk
  rw [hk]
  exact bodyPost_ret (v := .tuple #[W (0), .int .i64 (-1), .bool (z)]) (by simp [results, Tryd.results92, go_sem, d0, d1, d2, d3, d4, d5, limbs]) rfl ⟨rfl, hb⟩
theorem jamCut_any (a : Nat) (x : Int) (w : World) (ha : a < top6) (hT : Tab w) :
    Calls Tryd.prog 92 #[W a, .int .i64 x] w fun e w' => e = .returned (.tuple #[W (a / 2 ^ x.toNat), .int .i64 (halfN a x.toNat), .bool (decide (a % 2 ^ x.toNat = 0))]) ∧ Below w.heap.size w w' := by
  by_cases h0 : x ≤ 0
  · have := jamCut_zero a x w ha hT (by omega)
    rw [show x.toNat = 0 by omega, Nat.pow_zero, Nat.div_one, Nat.mod_one]
    exact this
  · by_cases h1 : x ≤ 384
    · have := jamCut_in a (x.toNat - 1) w ha hT (by omega)
      rw [show ((x.toNat - 1 : Nat) : Int) + 1 = x by omega, show x.toNat - 1 + 1 = x.toNat by omega] at this
      exact this
    · have := jamCut_big a x w ha hT (by omega)
      rw [div_pow_big a _ ha (by omega), mod_pow_big a _ ha (by omega)]
      unfold halfN
      rw [if_neg (by omega), testBit_big a _ ha (by omega)]
      exact this
end Go.Proofs.YtdcgcjmajacgiaaDoor

namespace Go.Proofs.YtdcgcjmajacgiaaDoor
open Go.RowKit
theorem belowN {B : Nat} {a w : World} (h : Below B a w) (n : Nat) : Below B a (w.drewN n) := h.trans ⟨rfl, rfl, rfl, Nat.le_refl _, fun _ _ => rfl⟩
set_option maxHeartbeats 1600000 in
set_option maxRecDepth 100000 in
theorem shapeNumbers_0 (w : World) :
    Calls Tryd.prog 95 #[.int .u8 0] w fun e w' => e = .returned (.tuple #[.int .i64 (wF 0 : Nat), .int .i64 (pF 0 : Nat), .int .i64 (eF 0 : Nat), .string ⟨nameF 0⟩]) ∧ Below w.heap.size w w' := by
  go_enter Tryd.func95, Tryd.ntmps95
  go_wp2_with fail
  go_quiet (fail)
  go_wp2
  exact bodyPost_ret (by simp [results, Tryd.results95, go_sem] <;> exact ⟨rfl, rfl, rfl, rfl⟩) rfl ⟨rfl, belowN ((Below.refl _ _).alloc (Nat.le_refl _) _) _⟩
set_option maxHeartbeats 1600000 in
set_option maxRecDepth 100000 in
theorem shapeNumbers_1 (w : World) :
    Calls Tryd.prog 95 #[.int .u8 1] w fun e w' => e = .returned (.tuple #[.int .i64 (wF 1 : Nat), .int .i64 (pF 1 : Nat), .int .i64 (eF 1 : Nat), .string ⟨nameF 1⟩]) ∧ Below w.heap.size w w' := by
  go_enter Tryd.func95, Tryd.ntmps95
  go_wp2_with fail
  go_quiet (fail)
  go_wp2
  exact bodyPost_ret (by simp [results, Tryd.results95, go_sem] <;> exact ⟨rfl, rfl, rfl, rfl⟩) rfl ⟨rfl, belowN ((Below.refl _ _).alloc (Nat.le_refl _) _) _⟩
set_option maxHeartbeats 1600000 in
set_option maxRecDepth 100000 in
theorem shapeNumbers_2 (w : World) :
    Calls Tryd.prog 95 #[.int .u8 2] w fun e w' => e = .returned (.tuple #[.int .i64 (wF 2 : Nat), .int .i64 (pF 2 : Nat), .int .i64 (eF 2 : Nat), .string ⟨nameF 2⟩]) ∧ Below w.heap.size w w' := by
  go_enter Tryd.func95, Tryd.ntmps95
  go_wp2_with fail
  go_quiet (fail)
  go_wp2
  exact bodyPost_ret (by simp [results, Tryd.results95, go_sem] <;> exact ⟨rfl, rfl, rfl, rfl⟩) rfl ⟨rfl, belowN ((Below.refl _ _).alloc (Nat.le_refl _) _) _⟩
set_option maxHeartbeats 1600000 in
set_option maxRecDepth 100000 in
theorem shapeNumbers_3 (w : World) :
    Calls Tryd.prog 95 #[.int .u8 3] w fun e w' => e = .returned (.tuple #[.int .i64 (wF 3 : Nat), .int .i64 (pF 3 : Nat), .int .i64 (eF 3 : Nat), .string ⟨nameF 3⟩]) ∧ Below w.heap.size w w' := by
  go_enter Tryd.func95, Tryd.ntmps95
  go_wp2_with fail
  go_quiet (fail)
  go_wp2
  exact bodyPost_ret (by simp [results, Tryd.results95, go_sem] <;> exact ⟨rfl, rfl, rfl, rfl⟩) rfl ⟨rfl, belowN ((Below.refl _ _).alloc (Nat.le_refl _) _) _⟩
set_option maxHeartbeats 1600000 in
set_option maxRecDepth 100000 in
theorem shapeNumbers_4 (f : Nat) (w : World) (h : 4 ≤ f) (hf : f < 256) :
    Calls Tryd.prog 95 #[.int .u8 f] w fun e w' => e = .returned (.tuple #[.int .i64 0, .int .i64 0, .int .i64 0, .string ⟨#[]⟩]) ∧ Below w.heap.size w w' := by
  have h4 : (4 : Int) ≤ (f : Int) := by omega
  have h6 : (f : Int) < 256 := by omega
  go_enter Tryd.func95, Tryd.ntmps95
  go_wp2
  exact bodyPost_ret (by simp [results, Tryd.results95, go_sem]) rfl ⟨rfl, (Below.refl _ _).alloc (Nat.le_refl _) _⟩
theorem shapeNumbers_any (f : Nat) (w : World) (hf : f < 256) :
    Calls Tryd.prog 95 #[.int .u8 f] w fun e w' => e = .returned (.tuple #[.int .i64 (wF f : Nat), .int .i64 (pF f : Nat), .int .i64 (eF f : Nat), .string ⟨nameF f⟩]) ∧ Below w.heap.size w w' := by
  rcases forms f with rfl | rfl | rfl | rfl | h
  · exact shapeNumbers_0 w
  · exact shapeNumbers_1 w
  · exact shapeNumbers_2 w
  · exact shapeNumbers_3 w
  · obtain ⟨e1, e2, e3, e4⟩ := wF_big f h
    rw [e1, e2, e3, e4]
    exact shapeNumbers_4 f w h hf
set_option maxHeartbeats 1600000 in
set_option maxRecDepth 100000 in
theorem shapeWidth_any (f : Nat) (w : World) (hf : f < 256) :
    Calls Tryd.prog 41 #[.int .u8 f] w fun e w' => e = .returned (.int .i64 (wF f : Nat)) ∧ Below w.heap.size w w' := by
  go_enter Tryd.func41, Tryd.ntmps41
  go_wp2_with fail
  refine (shapeNumbers_any f _ hf).mono ?_
  rintro e w' ⟨rfl, hb⟩
  go_wp2
  go_ret
  exact ⟨rfl, hb⟩
set_option maxHeartbeats 1600000 in
set_option maxRecDepth 100000 in
theorem shapePrecision_any (f : Nat) (w : World) (hf : f < 256) :
    Calls Tryd.prog 65 #[.int .u8 f] w fun e w' => e = .returned (.int .i64 (pF f : Nat)) ∧ Below w.heap.size w w' := by
  go_enter Tryd.func65, Tryd.ntmps65
  go_wp2_with fail
  refine (shapeNumbers_any f _ hf).mono ?_
  rintro e w' ⟨rfl, hb⟩
  go_wp2
  go_ret
  exact ⟨rfl, hb⟩
set_option maxHeartbeats 1600000 in
set_option maxRecDepth 100000 in
theorem shapeEmax_any (f : Nat) (w : World) (hf : f < 256) :
    Calls Tryd.prog 55 #[.int .u8 f] w fun e w' => e = .returned (.int .i64 (eF f : Nat)) ∧ Below w.heap.size w w' := by
  go_enter Tryd.func55, Tryd.ntmps55
  go_wp2_with fail
  refine (shapeNumbers_any f _ hf).mono ?_
  rintro e w' ⟨rfl, hb⟩
  go_wp2
  go_ret
  exact ⟨rfl, hb⟩
set_option maxHeartbeats 1600000 in
set_option maxRecDepth 100000 in
theorem shapeCheck_any (f : Nat) (w : World) (hf : f < 256) :
    Calls Tryd.prog 21 #[.int .u8 f] w fun e w' => e = .returned (.int .i64 (cond (decide (f < 4)) 0 2)) ∧ w = w' := by
  by_cases h : f < 4
  · have h4 : ¬ (3 : Int) < (f : Int) := by omega
    rw [decide_eq_true h]
    go_enter Tryd.func21, Tryd.ntmps21
    go_wp2
    go_ret
    exact ⟨rfl, rfl⟩
  · have h4 : (3 : Int) < (f : Int) := by omega
    rw [decide_eq_false h]
    go_enter Tryd.func21, Tryd.ntmps21
    go_wp2
    go_ret
    exact ⟨rfl, rfl⟩
set_option maxHeartbeats 1600000 in
set_option maxRecDepth 100000 in
theorem shapeCheckMode_any (f : Nat) (w : World) (hf : f < 256) :
    Calls Tryd.prog 9 #[.int .u8 f] w fun e w' => e = .returned (.int .i64 (cond (decide (f < 5)) 0 2)) ∧ w = w' := by
  by_cases h : f < 5
  · have h4 : ¬ (4 : Int) < (f : Int) := by omega
    rw [decide_eq_true h]
    go_enter Tryd.func9, Tryd.ntmps9
    go_wp2
    go_ret
    exact ⟨rfl, rfl⟩
  · have h4 : (4 : Int) < (f : Int) := by omega
    rw [decide_eq_false h]
    go_enter Tryd.func9, Tryd.ntmps9
    go_wp2
    go_ret
    exact ⟨rfl, rfl⟩
set_option maxHeartbeats 1600000 in
set_option maxRecDepth 100000 in
theorem shapeEmin_any (f : Nat) (w : World) (hf : f < 256) :
    Calls Tryd.prog 86 #[.int .u8 f] w fun e w' => e = .returned (.int .i64 (eminI f)) ∧ Below w.heap.size w w' := by
  unfold eminI
  have he := eF_le f
  have wr : IntKind.i64.wrap (1 - (eF f : Nat)) = 1 - ((eF f : Nat) : Int) := IntWalk.i64_in _ (by omega)
  by_cases h : f < 4
  · rw [decide_eq_true h]
    go_enter Tryd.func86, Tryd.ntmps86
    go_wp2_with fail
    refine (shapeCheck_any f _ hf).mono ?_
    rw [decide_eq_true h]
    rintro e w' ⟨rfl, rfl⟩
    go_wp2_with fail
    refine (shapeEmax_any f _ hf).mono ?_
    rintro e w' ⟨rfl, hb⟩
    go_wp2
    go_ret
    exact ⟨rfl, hb⟩
  · rw [decide_eq_false h]
    go_enter Tryd.func86, Tryd.ntmps86
    go_wp2_with fail
    refine (shapeCheck_any f _ hf).mono ?_
    rw [decide_eq_false h]
    rintro e w' ⟨rfl, rfl⟩
    go_wp2
    go_ret
    exact ⟨rfl, Below.refl _ _⟩
end Go.Proofs.YtdcgcjmajacgiaaDoor

namespace Go.Proofs.YtdcgcjmajacgiaaDoor
open Go.RowKit
theorem hi_zero (b : Nat) (h : b < 2 ^ 128) : (limb b 1 == 0) = decide (b < 2 ^ 64) := by
  unfold limb limbN
  rw [Bool.eq_iff_iff, beq_iff_eq, decide_eq_true_iff]
  rw [show 64 * 1 = 64 from rfl]
  omega
theorem lo_small (b s : Nat) (h : b < 2 ^ 64) (hs : s = 32 ∨ s = 16) : (limb b 0 / 2 ^ s == 0) = decide (b < 2 ^ s) := by
  unfold limb limbN
  rw [Bool.eq_iff_iff, beq_iff_eq, decide_eq_true_iff]
  rcases hs with rfl | rfl <;> omega
set_option maxHeartbeats 3200000 in
set_option maxRecDepth 100000 in
theorem shapeWidth_0 (w : World) : Calls Tryd.prog 41 #[.int .u8 0] w fun e w' => e = .returned (.int .i64 32) ∧ Below w.heap.size w w' := shapeWidth_any 0 w (by decide)
set_option maxHeartbeats 3200000 in
set_option maxRecDepth 100000 in
theorem shapeFits_0a (b : Nat) (w : World) (h1 : (limb b 1 == 0) = false) :
    Calls Tryd.prog 22 #[.int .u8 0, BV b] w fun e w' => e = .returned (.bool false) ∧ Below w.heap.size w w' := by
  go_enter Tryd.func22, Tryd.ntmps22
  go_wp2_with fail
  go_region
  all_goals go_wp2
  all_goals go_ret
  all_goals exact ⟨rfl, belowN ((Below.refl _ _).alloc (Nat.le_refl _) _) _⟩
set_option maxHeartbeats 3200000 in
set_option maxRecDepth 100000 in
theorem shapeFits_0b (b : Nat) (w : World) (l : Bool) (h1 : (limb b 1 == 0) = true) (h2 : (limb b 0 / 2 ^ 32 == 0) = l) :
    Calls Tryd.prog 22 #[.int .u8 0, BV b] w fun e w' => e = .returned (.bool l) ∧ Below w.heap.size w w' := by
  go_enter Tryd.func22, Tryd.ntmps22
  go_wp2_with fail
  have c0 : (w.alloc (.cells #[.int .u64 (limb b 1), .int .u64 (limb b 0)] 27 (0, 0))).cell? ⟨w.heap.size, 0, none⟩ = some (.int .u64 (limb b 1)) := by go_simp
  have c1 : (w.alloc (.cells #[.int .u64 (limb b 1), .int .u64 (limb b 0)] 27 (0, 0))).cell? ⟨w.heap.size, 1, none⟩ = some (.int .u64 (limb b 0)) := by go_simp
  go_region_held3 (fun w' => w'.cell? ⟨w.heap.size, 0, none⟩ = some (.int .u64 (limb b 1)) ∧ w'.cell? ⟨w.heap.size, 1, none⟩ = some (.int .u64 (limb b 0))) (first | exact ⟨c0, c1⟩ | exact ⟨g0, g1⟩)
    (first | (go_at_call 41; refine (shapeWidth_0 _).mono ?_; rintro e w3 ⟨rfl, hb3⟩; have g0 := (hb3.cell (p := ⟨w.heap.size, 0, none⟩) (by simp)).trans c0; have g1 := (hb3.cell (p := ⟨w.heap.size, 1, none⟩) (by simp)).trans c1))
  all_goals
    replace hb3 := (((Below.refl w.heap.size w).alloc (Nat.le_refl _) (.cells #[.int .u64 (limb b 1), .int .u64 (limb b 0)] 27 (0, 0))).drew).trans (hb3.mono (by simp))
    go_wp2
  all_goals go_ret
  all_goals exact ⟨ret_bool (by rw [show min (IntKind.u64.wrap 32).toNat 64 = 32 from by decide]; exact h2), by first | exact hb3 | exact hb3.drew | exact belowN hb3 _⟩
set_option maxHeartbeats 3200000 in
set_option maxRecDepth 100000 in
theorem shapeWidth_2 (w : World) : Calls Tryd.prog 41 #[.int .u8 2] w fun e w' => e = .returned (.int .i64 16) ∧ Below w.heap.size w w' := shapeWidth_any 2 w (by decide)
set_option maxHeartbeats 3200000 in
set_option maxRecDepth 100000 in
theorem shapeFits_2a (b : Nat) (w : World) (h1 : (limb b 1 == 0) = false) :
    Calls Tryd.prog 22 #[.int .u8 2, BV b] w fun e w' => e = .returned (.bool false) ∧ Below w.heap.size w w' := by
  go_enter Tryd.func22, Tryd.ntmps22
  go_wp2_with fail
  go_region
  all_goals go_wp2
  all_goals go_ret
  all_goals exact ⟨rfl, belowN ((Below.refl _ _).alloc (Nat.le_refl _) _) _⟩
set_option maxHeartbeats 3200000 in
set_option maxRecDepth 100000 in
theorem shapeFits_2b (b : Nat) (w : World) (l : Bool) (h1 : (limb b 1 == 0) = true) (h2 : (limb b 0 / 2 ^ 16 == 0) = l) :
    Calls Tryd.prog 22 #[.int .u8 2, BV b] w fun e w' => e = .returned (.bool l) ∧ Below w.heap.size w w' := by
  go_enter Tryd.func22, Tryd.ntmps22
  go_wp2_with fail
  have c0 : (w.alloc (.cells #[.int .u64 (limb b 1), .int .u64 (limb b 0)] 27 (0, 0))).cell? ⟨w.heap.size, 0, none⟩ = some (.int .u64 (limb b 1)) := by go_simp
  have c1 : (w.alloc (.cells #[.int .u64 (limb b 1), .int .u64 (limb b 0)] 27 (0, 0))).cell? ⟨w.heap.size, 1, none⟩ = some (.int .u64 (limb b 0)) := by go_simp
  go_region_held3 (fun w' => w'.cell? ⟨w.heap.size, 0, none⟩ = some (.int .u64 (limb b 1)) ∧ w'.cell? ⟨w.heap.size, 1, none⟩ = some (.int .u64 (limb b 0))) (first | exact ⟨c0, c1⟩ | exact ⟨g0, g1⟩)
    (first | (go_at_call 41; refine (shapeWidth_2 _).mono ?_; rintro e w3 ⟨rfl, hb3⟩; have g0 := (hb3.cell (p := ⟨w.heap.size, 0, none⟩) (by simp)).trans c0; have g1 := (hb3.cell (p := ⟨w.heap.size, 1, none⟩) (by simp)).trans c1))
  all_goals
    replace hb3 := (((Below.refl w.heap.size w).alloc (Nat.le_refl _) (.cells #[.int .u64 (limb b 1), .int .u64 (limb b 0)] 27 (0, 0))).drew).trans (hb3.mono (by simp))
    go_wp2
  all_goals go_ret
  all_goals exact ⟨ret_bool (by rw [show min (IntKind.u64.wrap 16).toNat 64 = 16 from by decide]; exact h2), by first | exact hb3 | exact hb3.drew | exact belowN hb3 _⟩
set_option maxHeartbeats 3200000 in
set_option maxRecDepth 100000 in
theorem shapeFits_1 (b : Nat) (w : World) (l : Bool) (h1 : (limb b 1 == 0) = l) :
    Calls Tryd.prog 22 #[.int .u8 1, BV b] w fun e w' => e = .returned (.bool l) ∧ Below w.heap.size w w' := by
  go_enter Tryd.func22, Tryd.ntmps22
  go_wp2
  go_ret
  exact ⟨rfl, (Below.refl _ _).alloc (Nat.le_refl _) _⟩
set_option maxHeartbeats 3200000 in
set_option maxRecDepth 100000 in
theorem shapeFits_3 (b : Nat) (w : World) :
    Calls Tryd.prog 22 #[.int .u8 3, BV b] w fun e w' => e = .returned (.bool true) ∧ Below w.heap.size w w' := by
  go_enter Tryd.func22, Tryd.ntmps22
  go_wp2
  go_ret
  exact ⟨rfl, (Below.refl _ _).alloc (Nat.le_refl _) _⟩
set_option maxHeartbeats 3200000 in
set_option maxRecDepth 100000 in
theorem shapeFits_4 (f b : Nat) (w : World) (h : 4 ≤ f) :
    Calls Tryd.prog 22 #[.int .u8 f, BV b] w fun e w' => e = .returned (.bool false) ∧ Below w.heap.size w w' := by
  have e0 : ((f : Int) == 0) = false := by simp; omega
  have e1 : ((f : Int) == 1) = false := by simp; omega
  have e2 : ((f : Int) == 2) = false := by simp; omega
  have e3 : ((f : Int) == 3) = false := by simp; omega
  have h4 : (4 : Int) ≤ (f : Int) := by omega
  go_enter Tryd.func22, Tryd.ntmps22
  go_wp2
  go_ret
  exact ⟨rfl, (Below.refl _ _).alloc (Nat.le_refl _) _⟩
theorem shapeFits_any (f b : Nat) (w : World) (hb : b < 2 ^ 128) :
    Calls Tryd.prog 22 #[.int .u8 f, BV b] w fun e w' => e = .returned (.bool (fitsB f b)) ∧ Below w.heap.size w w' := by
  have h1 := hi_zero b hb
  rcases forms f with rfl | rfl | rfl | rfl | h
  · by_cases h : b < 2 ^ 64
    · rw [decide_eq_true h] at h1
      have := shapeFits_0b b w _ h1 (lo_small b 32 h (by omega))
      rw [show fitsB 0 b = decide (b < 2 ^ 32) by simp [fitsB, wF]]
      exact this
    · rw [decide_eq_false h] at h1
      rw [show fitsB 0 b = false by simp [fitsB, wF]; omega]
      exact shapeFits_0a b w h1
  · rw [show fitsB 1 b = decide (b < 2 ^ 64) by simp [fitsB, wF]]
    exact shapeFits_1 b w _ h1
  · by_cases h : b < 2 ^ 64
    · rw [decide_eq_true h] at h1
      have := shapeFits_2b b w _ h1 (lo_small b 16 h (by omega))
      rw [show fitsB 2 b = decide (b < 2 ^ 16) by simp [fitsB, wF]]
      exact this
    · rw [decide_eq_false h] at h1
      rw [show fitsB 2 b = false by simp [fitsB, wF]; omega]
      exact shapeFits_2a b w h1
  · rw [show fitsB 3 b = true by simp [fitsB, wF]; omega]
    exact shapeFits_3 b w
  · rw [show fitsB f b = false by simp [fitsB]; omega]
    exact shapeFits_4 f b w h
end Go.Proofs.YtdcgcjmajacgiaaDoor

namespace Go.Proofs.YtdcgcjmajacgiaaDoor
open Go.RowKit
theorem exp_bits (x d : Nat) (hx : x < 18446744073709551616) (hd : d ≤ 15) :
    Go.bits .and .i64 (IntKind.i64.wrap (x : Int)) (IntKind.i64.wrap (IntKind.i64.wrap (2 ^ d) - 1)) = ((x % 2 ^ d : Nat) : Int) := by
  have y1 : 2 ^ d ≤ 2 ^ 15 := Nat.pow_le_pow_right (by decide) hd
  have y0 := Nat.two_pow_pos d
  have e : IntKind.i64.wrap (IntKind.i64.wrap ((2 : Int) ^ d) - 1) = ((2 ^ d - 1 : Nat) : Int) := by
    rw [show (2 : Int) ^ d = ((2 ^ d : Nat) : Int) by simp, IntKind.wrap_i64, IntKind.wrap_i64]
    generalize 2 ^ d = y at *
    omega
  rw [e]
  show IntKind.i64.wrap ((BitVec.ofInt 64 (IntKind.i64.wrap (x : Int)) &&& BitVec.ofInt 64 ((2 ^ d - 1 : Nat) : Int)).toNat : Nat) = _
  have hm : 2 ^ d - 1 < 18446744073709551616 := by omega
  rw [BitVec.toNat_and, ofInt_u64 _ hm, BitVec.toNat_ofInt, Nat.and_two_pow_sub_one_eq_mod, IntKind.wrap_i64, IntKind.wrap_i64]
  have : (((x : Int) + 9223372036854775808) % 18446744073709551616 - 9223372036854775808) % ((2 ^ 64 : Nat) : Int) = (x : Int) := by omega
  rw [this, Int.toNat_natCast]
  have := Nat.mod_lt x y0
  generalize x % 2 ^ d = z at *
  generalize 2 ^ d = y at *
  omega
theorem limb_low (y d : Nat) (hd : d ≤ 15) : limbN y 0 % 2 ^ d = y % 2 ^ d := by
  unfold limbN
  rw [Nat.mul_zero, Nat.pow_zero, Nat.div_one, B64]
  exact Nat.mod_mod_of_dvd _ (Nat.pow_dvd_pow 2 (by omega))
theorem field_exp (y d : Nat) (hd : d ≤ 15) : Go.bits .and .i64 (IntKind.i64.wrap (limb y 0)) (IntKind.i64.wrap (IntKind.i64.wrap (2 ^ d) - 1)) = ((y % 2 ^ d : Nat) : Int) := by
  unfold limb
  rw [exp_bits _ d (limbN_lt y 0) hd, limb_low y d hd]
theorem lt_top_bits (b : Nat) (h : b < 2 ^ (64 * 2)) : b < top6 := Nat.lt_of_lt_of_le h (by unfold top6; exact pw_mono 2 6 (by decide))
set_option maxHeartbeats 6400000 in
set_option maxRecDepth 100000 in
theorem kindFields_any (f b : Nat) (w : World) (hf : f < 4) (hb : b < 2 ^ (64 * 2)) (hT : Tab w) :
    Calls Tryd.prog 108 #[.int .u8 f, BV b] w fun e w' => e = .returned (.tuple #[.bool (b.testBit (wF f - 1)), .int .i64 (expN f b : Nat), W (b % 2 ^ (pF f - 1))]) ∧ Below w.heap.size w w' := by
  obtain ⟨p1, p2, n1, n2, np1, np2⟩ := formB f hf
  have cP := fun w => shapePrecision_any f w (by omega)
  have cW := fun w => shapeWidth_any f w (by omega)
  unfold expN
  generalize pF f = p at *
  generalize wF f = n at *
  obtain ⟨q, hq⟩ : ∃ q, p - 1 = q := ⟨_, rfl⟩
  obtain ⟨r, hr⟩ : ∃ r, n - 1 = r := ⟨_, rfl⟩
  obtain ⟨d, hd⟩ : ∃ d, n - p = d := ⟨_, rfl⟩
  rw [hq, hr, hd]
  have HT := Lib.hid hT
  have HB := Lib.hid hb
  clear hT hb
  have vp : IntKind.i64.wrap ((p : Int) - 1) = (q : Int) := by rw [show (p : Int) - 1 = (q : Int) by omega]; exact IntWalk.i64_in _ (by omega)
  have vn : IntKind.i64.wrap ((n : Int) - 1) = (r : Int) := by rw [show (n : Int) - 1 = (r : Int) by omega]; exact IntWalk.i64_in _ (by omega)
  have vd : IntKind.i64.wrap ((n : Int) - (p : Int)) = (d : Int) := by rw [show (n : Int) - (p : Int) = (d : Int) by omega]; exact IntWalk.i64_in _ (by omega)
  have ep : ((p : Int) - 1).toNat = q := by omega
  have q4 : (q : Int) ≤ 384 := by omega
  have d15 : d ≤ 15 := by omega
  go_enter Tryd.func108, Tryd.ntmps108
  go_wp2_with fail
  refine (wideOfBits_any b _ HB.out).mono ?_
  rintro e w1 ⟨rfl, hb1⟩
  go_wp2_with fail
  refine (cP _).mono ?_
  rintro e w2 ⟨rfl, hb2⟩
  go_wp2_with fail
  refine (cW _).mono ?_
  rintro e w3 ⟨rfl, hb3⟩
  have b6 : Blk 54 w3 (w.heap.size + 1) (limbs 0) := by
    have h1 : Blk 54 w1 (w.heap.size + 1) (limbs 0) := by
      rw [limbs_zero]
      have := (Blk.new (T := 54) (w.alloc (.cells #[.int .u64 (limb b 1), .int .u64 (limb b 0)] 27)) #[.int .u64 0, .int .u64 0, .int .u64 0, .int .u64 0, .int .u64 0, .int .u64 0]).below hb1 (by simp)
      simpa using this
    exact ((h1.alloc _).below hb2 (by have := h1.lt; simp; omega)).below hb3 (by have := h1.lt; have := hb2.size; simp at this; omega)
  have b7 : Blk 54 w3 w1.heap.size (limbs b) := ((Blk.new w1 (limbs b)).below hb2 (by simp)).below hb3 (by have := hb2.size; simp at this; omega)
  have hbw : Below w.heap.size w w3 := by
    have hs1 := hb1.size
    have hs2 := hb2.size
    simp at hs1 hs2
    exact ((((((Below.refl _ _).alloc (Nat.le_refl _) _).alloc (by simp) _).trans (hb1.mono (by simp <;> omega))).alloc (by omega) _).trans (hb2.mono (by simp; omega))).trans (hb3.mono (by omega))
  have hT3 := Lib.hid (HT.out.below hbw)
  obtain ⟨f0, f1, f2, f3, f4, f5⟩ := b6.six_free
  obtain ⟨d0, d1, d2, d3, d4, d5⟩ := b6.six
  obtain ⟨c0, c1, c2, c3, c4, c5⟩ := b7.six
  go_wp2_with fail
  have ne : w1.heap.size ≠ w.heap.size + 1 := by have := hb1.size; simp at this; omega
  clear hq hr hd p1 p2 n1 n2 np1 np2 hf cP cW
  go_region_held3 (fun w' => w'.cell? ⟨w1.heap.size, 0, none⟩ = some (.int .u64 (limb b 0)) ∧ w'.cell? ⟨w1.heap.size, 1, none⟩ = some (.int .u64 (limb b 1)) ∧ w'.cell? ⟨w1.heap.size, 2, none⟩ = some (.int .u64 (limb b 2)) ∧ w'.cell? ⟨w1.heap.size, 3, none⟩ = some (.int .u64 (limb b 3)) ∧ w'.cell? ⟨w1.heap.size, 4, none⟩ = some (.int .u64 (limb b 4)) ∧ w'.cell? ⟨w1.heap.size, 5, none⟩ = some (.int .u64 (limb b 5))) (first | with_reducible exact ⟨k0, k1, k2, k3, k4, k5⟩ | with_reducible exact ⟨g0, g1, g2, g3, g4, g5⟩ | exact (B7.put6_other (b % 2 ^ q) ne).six | exact ⟨c0, c1, c2, c3, c4, c5⟩)
    (first
    | (go_at_call 110; refine (wideMask_n (q : Int) _ q4).mono ?_; rw [Int.toNat_natCast]; rintro e w4 ⟨rfl, hb4⟩; obtain ⟨g0, g1, g2, g3, g4, g5⟩ := (b7.drew.below hb4 b7.lt).six)
    | (go_at_call 109; refine (wideCut_n b q _).mono ?_; rintro e w5 ⟨rfl, hb5⟩; have B7 := (b7.drew.below hb4 b7.lt).below hb5 (b7.drew.below hb4 b7.lt).lt; have B6 := (b6.drew.below hb4 b6.lt).below hb5 (b6.drew.below hb4 b6.lt).lt; obtain ⟨k0, k1, k2, k3, k4, k5⟩ := B7.six; obtain ⟨m0, m1, m2, m3, m4, m5⟩ := B6.six; obtain ⟨n0, n1, n2, n3, n4, n5⟩ := B6.six_free))
  all_goals
    have u7 := B7.put6_other (b % 2 ^ q) ne
    have u6 := B6.put6 rfl (b % 2 ^ q)
    have hs3 : w.heap.size + 1 < w3.drew.heap.size := b6.lt
    have hu := below_put6 ((hbw.drew.trans (hb4.mono (by omega))).trans (hb5.mono (by have := hb4.size; omega))) (by omega : w.heap.size ≤ w.heap.size + 1) (b % 2 ^ q)
    have hs7 := u7.lt
    clear B7 B6 hb1 hb2 hb3 hb4 hb5 b6 b7 hbw hs3 hT3
    change Exit.then _ _ Exit.normal _ (put6 w5 (w.heap.size + 1) (b % 2 ^ q))
    generalize put6 w5 (w.heap.size + 1) (b % 2 ^ q) = u at *
    clear f0 f1 f2 f3 f4 f5 d0 d1 d2 d3 d4 d5 c0 c1 c2 c3 c4 c5 g0 g1 g2 g3 g4 g5 k0 k1 k2 k3 k4 k5 m0 m1 m2 m3 m4 m5 n0 n1 n2 n3 n4 n5
    have U := Lib.hid (HT.out.below hu)
    obtain ⟨c0, c1, c2, c3, c4, c5⟩ := u7.six
    go_wp2_with fail
    refine (wideRight_n b (q : Int) _ (lt_top_bits b HB.out) U.out).mono ?_
    rw [Int.toNat_natCast]
    rintro e w6 ⟨rfl, hb6⟩
    have x7 := (u7.below hb6 u7.lt).alloc (.cells (limbs (b / 2 ^ q)) 54 (0, 0))
    have x6 := (u6.below hb6 u6.lt).alloc (.cells (limbs (b / 2 ^ q)) 54 (0, 0))
    have x10 := Blk.new (T := 54) w6 (limbs (b / 2 ^ q))
    have hx := (hu.trans (hb6.mono (by have := u6.lt; omega))).alloc (by have := u6.lt; have := hb6.size; omega) (.cells (limbs (b / 2 ^ q)) 54 (0, 0))
    clear c0 c1 c2 c3 c4 c5
    have n67 : w6.heap.size ≠ w.heap.size + 1 := by have := (u6.below hb6 u6.lt).lt; omega
    clear u7 u6 hb6 hu
    go_wp2_with fail
    change Code.wp _ _ _ _ (w6.alloc (.cells (limbs (b / 2 ^ q)) 54 (0, 0)))
    generalize w6.alloc (.cells (limbs (b / 2 ^ q)) 54 (0, 0)) = v at *
    obtain ⟨c0, c1, c2, c3, c4, c5⟩ := x7.six
    obtain ⟨d0, d1, d2, d3, d4, d5⟩ := x6.six
    have e0 := x10.cell 0 (limbs_get _ 0 (by decide))
    have du : IntKind.u64.wrap (d : Int) = (d : Int) := by rw [IntKind.wrap_u64]; omega
    have dt : min (d : Int).toNat 64 = d := by omega
    clear ne n67 vp ep q4 hs7
    go_region_held3 (fun w' => w'.cell? ⟨w1.heap.size, 0, none⟩ = some (.int .u64 (limb b 0)) ∧ w'.cell? ⟨w1.heap.size, 1, none⟩ = some (.int .u64 (limb b 1)) ∧ w'.cell? ⟨w1.heap.size, 2, none⟩ = some (.int .u64 (limb b 2)) ∧ w'.cell? ⟨w1.heap.size, 3, none⟩ = some (.int .u64 (limb b 3)) ∧ w'.cell? ⟨w1.heap.size, 4, none⟩ = some (.int .u64 (limb b 4)) ∧ w'.cell? ⟨w1.heap.size, 5, none⟩ = some (.int .u64 (limb b 5)) ∧ w'.cell? ⟨w6.heap.size, 0, none⟩ = some (.int .u64 (limb (b / 2 ^ q) 0)) ∧ w'.cell? ⟨w.heap.size + 1, 0, none⟩ = some (.int .u64 (limb (b % 2 ^ q) 0)) ∧ w'.cell? ⟨w.heap.size + 1, 1, none⟩ = some (.int .u64 (limb (b % 2 ^ q) 1)) ∧ w'.cell? ⟨w.heap.size + 1, 2, none⟩ = some (.int .u64 (limb (b % 2 ^ q) 2)) ∧ w'.cell? ⟨w.heap.size + 1, 3, none⟩ = some (.int .u64 (limb (b % 2 ^ q) 3)) ∧ w'.cell? ⟨w.heap.size + 1, 4, none⟩ = some (.int .u64 (limb (b % 2 ^ q) 4)) ∧ w'.cell? ⟨w.heap.size + 1, 5, none⟩ = some (.int .u64 (limb (b % 2 ^ q) 5)))
      (first | with_reducible exact ⟨g0, g1, g2, g3, g4, g5, h0, k0, k1, k2, k3, k4, k5⟩ | (rw [hk]; with_reducible exact ⟨g0, g1, g2, g3, g4, g5, h0, k0, k1, k2, k3, k4, k5⟩) | exact ⟨c0, c1, c2, c3, c4, c5, e0, d0, d1, d2, d3, d4, d5⟩)
      (first
      | (go_at_call 39; refine (wideBit_any b (r : Int) _).mono ?_; rw [bitI_in b r (lt_top_bits b HB.out)]; rintro e w7 ⟨rfl, hb7⟩; have B7 := x7.drew.below hb7 x7.lt; have B6 := x6.drew.below hb7 x6.lt; have hk := B6.again; unfold put6 at hk; obtain ⟨g0, g1, g2, g3, g4, g5⟩ := B7.six; have h0 := (x10.drew.below hb7 x10.lt).cell 0 (limbs_get _ 0 (by decide)); obtain ⟨k0, k1, k2, k3, k4, k5⟩ := B6.six; obtain ⟨n0, n1, n2, n3, n4, n5⟩ := B6.six_free))
    all_goals
      have hf := hx.drew.trans (hb7.mono (by have := x6.lt; exact Nat.le_of_lt (Nat.lt_of_succ_lt this)))
      have hv := field_exp (b / 2 ^ q) d d15
      have HV := Lib.hid hv
      have HF := Lib.hid hf
      clear hv hf hx hb7 B7 hk x7 x6 x10 c0 c1 c2 c3 c4 c5 d0 d1 d2 d3 d4 d5 e0
      go_wp2_with fail
      exact bodyPost_ret (v := .tuple #[.bool (b.testBit r), .int .i64 (Go.bits .and .i64 (IntKind.i64.wrap (limb (b / 2 ^ q) 0)) (IntKind.i64.wrap (IntKind.i64.wrap (2 ^ d) - 1))), W (b % 2 ^ q)])
        (by simp [results, Tryd.results108, go_sem, k0, k1, k2, k3, k4, k5, limbs]) rfl ⟨by rw [HV.out], HF.out⟩
end Go.Proofs.YtdcgcjmajacgiaaDoor

namespace Go.Proofs.YtdcgcjmajacgiaaDoor
open Go.RowKit
set_option maxHeartbeats 3200000 in
set_option maxRecDepth 100000 in
theorem kindClass_nan (f b e t em p : Nat) (neg qb : Bool) (w : World) (hem : em ≤ 16383) (hp1 : 11 ≤ p) (hp2 : p ≤ 113) (ht : t < top6) (hT : Tab w)
    (cF : ∀ w, Tab w → Calls Tryd.prog 108 #[.int .u8 f, BV b] w fun e' w' => e' = .returned (.tuple #[.bool neg, .int .i64 (e : Nat), W t]) ∧ Below w.heap.size w w')
    (cE : ∀ w, Calls Tryd.prog 55 #[.int .u8 f] w fun e' w' => e' = .returned (.int .i64 (em : Nat)) ∧ Below w.heap.size w w')
    (cP : ∀ w, Calls Tryd.prog 65 #[.int .u8 f] w fun e' w' => e' = .returned (.int .i64 (p : Nat)) ∧ Below w.heap.size w w')
    (hz : decide (t = 0) = false) (hx : (e : Int) = 2 * (em : Int) + 1) (hy : 0 < (e : Int)) (hq : t.testBit (p - 2) = qb) :
    Calls Tryd.prog 94 #[.int .u8 f, BV b] w fun e' w' => e' = .returned (.int .u8 (cond qb 9 8)) ∧ Below w.heap.size w w' := by
  have eq0 := fun w => (run_equal_zero w t ht).trans (by rw [hz])
  have eq1 : ∀ w, (Op.equalIn 10000 54 (.agg (limbs t)) (.agg #[.int .u64 0, .int .u64 0, .int .u64 0, .int .u64 0, .int .u64 0, .int .u64 0])).run Tryd.prog w = .ok false w := eq0
  have vp : IntKind.i64.wrap ((p : Int) - 2) = ((p - 2 : Nat) : Int) := by rw [show (p : Int) - 2 = ((p - 2 : Nat) : Int) by omega]; exact IntWalk.i64_in _ (by omega)
  have HT := Lib.hid (hT.below ((Below.refl w.heap.size w).alloc (Nat.le_refl _) (.cells #[.int .u64 (limb b 1), .int .u64 (limb b 0)] 27 (0, 0))))
  have HA := Lib.hid ht
  obtain ⟨r, hr⟩ : ∃ r, p - 2 = r := ⟨_, rfl⟩
  rw [hr] at vp hq
  have hxb : ((e : Int) == 2 * (em : Int) + 1) = true := by simp; omega
  have hyb : ((e : Int) == 0) = false := by simp; omega
  clear ht hz hT hp1 hp2 hr
  cases neg <;> cases qb <;>
  · go_enter Tryd.func94, Tryd.ntmps94
    go_wp2_with fail
    refine (cF _ HT.out).mono ?_
    rintro e' w1 ⟨rfl, hb1⟩
    go_wp2_with fail
    refine (cE _).mono ?_
    rintro e' w2 ⟨rfl, hb2⟩
    have b7 : Blk 54 w2 w1.heap.size (limbs t) := (Blk.new w1 (limbs t)).below hb2 (by simp)
    obtain ⟨c0, c1, c2, c3, c4, c5⟩ := b7.six
    go_wp2_with fail
    go_region_held3 (fun w' => w'.cell? ⟨w1.heap.size, 0, none⟩ = some (.int .u64 (limb t 0)) ∧ w'.cell? ⟨w1.heap.size, 1, none⟩ = some (.int .u64 (limb t 1)) ∧ w'.cell? ⟨w1.heap.size, 2, none⟩ = some (.int .u64 (limb t 2)) ∧ w'.cell? ⟨w1.heap.size, 3, none⟩ = some (.int .u64 (limb t 3)) ∧ w'.cell? ⟨w1.heap.size, 4, none⟩ = some (.int .u64 (limb t 4)) ∧ w'.cell? ⟨w1.heap.size, 5, none⟩ = some (.int .u64 (limb t 5)))
      (first | with_reducible exact ⟨g0, g1, g2, g3, g4, g5⟩ | with_reducible exact ⟨k0, k1, k2, k3, k4, k5⟩ | exact ⟨c0, c1, c2, c3, c4, c5⟩)
      (first
      | (go_at_call 65; refine (cP _).mono ?_; rintro e' w3 ⟨rfl, hb3⟩; have B3 := b7.drew.below hb3 b7.lt; obtain ⟨k0, k1, k2, k3, k4, k5⟩ := B3.six)
      | (go_at_call 39; refine (wideBit_any t (r : Int) _).mono ?_; rw [bitI_in t r HA.out, hq]; rintro e' w4 ⟨rfl, hb4⟩; obtain ⟨g0, g1, g2, g3, g4, g5⟩ := (B3.below hb4 B3.lt).six))
    all_goals
      have hs1 := hb1.size
      have hs2 := hb2.size
      have hs3 := hb3.size
      simp at hs1 hs2
      have HF := Lib.hid ((((((((Below.refl w.heap.size w).alloc (Nat.le_refl _) (.cells #[.int .u64 (limb b 1), .int .u64 (limb b 0)] 27 (0, 0))).trans (hb1.mono (by simp))).alloc (by omega) (.cells (limbs t) 54 (0, 0))).trans (hb2.mono (by simp; omega))).drew).trans (hb3.mono (by have := b7.lt; simp; omega))).trans (hb4.mono (by have := B3.lt; omega)))
      clear hs1 hs2 hs3 hb1 hb2 hb3 hb4 b7 B3
      go_wp2
      go_ret
      exact ⟨rfl, HF.out⟩
set_option maxHeartbeats 3200000 in
set_option maxRecDepth 100000 in
theorem kindClass_inf (f b e t em p : Nat) (neg qb : Bool) (w : World) (hem : em ≤ 16383) (hp1 : 11 ≤ p) (hp2 : p ≤ 113) (ht : t < top6) (hT : Tab w)
    (cF : ∀ w, Tab w → Calls Tryd.prog 108 #[.int .u8 f, BV b] w fun e' w' => e' = .returned (.tuple #[.bool neg, .int .i64 (e : Nat), W t]) ∧ Below w.heap.size w w')
    (cE : ∀ w, Calls Tryd.prog 55 #[.int .u8 f] w fun e' w' => e' = .returned (.int .i64 (em : Nat)) ∧ Below w.heap.size w w')
    (cP : ∀ w, Calls Tryd.prog 65 #[.int .u8 f] w fun e' w' => e' = .returned (.int .i64 (p : Nat)) ∧ Below w.heap.size w w')
    (hz : decide (t = 0) = true) (hx : (e : Int) = 2 * (em : Int) + 1) (hy : 0 < (e : Int)) :
    Calls Tryd.prog 94 #[.int .u8 f, BV b] w fun e' w' => e' = .returned (.int .u8 (cond neg (7 - 7) 7)) ∧ Below w.heap.size w w' := by
  have eq0 := fun w => (run_equal_zero w t ht).trans (by rw [hz])
  have eq1 : ∀ w, (Op.equalIn 10000 54 (.agg (limbs t)) (.agg #[.int .u64 0, .int .u64 0, .int .u64 0, .int .u64 0, .int .u64 0, .int .u64 0])).run Tryd.prog w = .ok true w := eq0
  have vp : IntKind.i64.wrap ((p : Int) - 2) = ((p - 2 : Nat) : Int) := by rw [show (p : Int) - 2 = ((p - 2 : Nat) : Int) by omega]; exact IntWalk.i64_in _ (by omega)
  have HT := Lib.hid (hT.below ((Below.refl w.heap.size w).alloc (Nat.le_refl _) (.cells #[.int .u64 (limb b 1), .int .u64 (limb b 0)] 27 (0, 0))))
  have HA := Lib.hid ht
  have hxb : ((e : Int) == 2 * (em : Int) + 1) = true := by simp; omega
  have hyb : ((e : Int) == 0) = false := by simp; omega
  clear ht hz hT hp1 hp2 vp
  cases neg <;>
  · go_enter Tryd.func94, Tryd.ntmps94
    go_wp2_with fail
    refine (cF _ HT.out).mono ?_
    rintro e' w1 ⟨rfl, hb1⟩
    go_wp2_with fail
    refine (cE _).mono ?_
    rintro e' w2 ⟨rfl, hb2⟩
    go_wp2_with fail
    refine (cE _).mono ?_
    rintro e' w3 ⟨rfl, hb3⟩
    go_wp2
    go_ret
    have hs1 := hb1.size
    have hs2 := hb2.size
    simp at hs1 hs2
    exact ⟨rfl, (((((Below.refl w.heap.size w).alloc (Nat.le_refl _) (.cells #[.int .u64 (limb b 1), .int .u64 (limb b 0)] 27 (0, 0))).trans (hb1.mono (by simp))).alloc (by omega) (.cells (limbs t) 54 (0, 0))).trans (hb2.mono (by simp; omega))).trans (hb3.mono (by omega))⟩
set_option maxHeartbeats 3200000 in
set_option maxRecDepth 100000 in
theorem kindClass_nor (f b e t em p : Nat) (neg qb : Bool) (w : World) (hem : em ≤ 16383) (hp1 : 11 ≤ p) (hp2 : p ≤ 113) (ht : t < top6) (hT : Tab w)
    (cF : ∀ w, Tab w → Calls Tryd.prog 108 #[.int .u8 f, BV b] w fun e' w' => e' = .returned (.tuple #[.bool neg, .int .i64 (e : Nat), W t]) ∧ Below w.heap.size w w')
    (cE : ∀ w, Calls Tryd.prog 55 #[.int .u8 f] w fun e' w' => e' = .returned (.int .i64 (em : Nat)) ∧ Below w.heap.size w w')
    (cP : ∀ w, Calls Tryd.prog 65 #[.int .u8 f] w fun e' w' => e' = .returned (.int .i64 (p : Nat)) ∧ Below w.heap.size w w')
    (hz : decide (t = 0) = false) (hx : ¬ (e : Int) = 2 * (em : Int) + 1) (hy : 0 < (e : Int)) :
    Calls Tryd.prog 94 #[.int .u8 f, BV b] w fun e' w' => e' = .returned (.int .u8 (cond neg (7 - 6) 6)) ∧ Below w.heap.size w w' := by
  have eq0 := fun w => (run_equal_zero w t ht).trans (by rw [hz])
  have eq1 : ∀ w, (Op.equalIn 10000 54 (.agg (limbs t)) (.agg #[.int .u64 0, .int .u64 0, .int .u64 0, .int .u64 0, .int .u64 0, .int .u64 0])).run Tryd.prog w = .ok false w := eq0
  have vp : IntKind.i64.wrap ((p : Int) - 2) = ((p - 2 : Nat) : Int) := by rw [show (p : Int) - 2 = ((p - 2 : Nat) : Int) by omega]; exact IntWalk.i64_in _ (by omega)
  have HT := Lib.hid (hT.below ((Below.refl w.heap.size w).alloc (Nat.le_refl _) (.cells #[.int .u64 (limb b 1), .int .u64 (limb b 0)] 27 (0, 0))))
  have HA := Lib.hid ht
  have hxb : ((e : Int) == 2 * (em : Int) + 1) = false := by simp; omega
  have hyb : ((e : Int) == 0) = false := by simp; omega
  clear ht hz hT hp1 hp2 vp
  cases neg <;>
  · go_enter Tryd.func94, Tryd.ntmps94
    go_wp2_with fail
    refine (cF _ HT.out).mono ?_
    rintro e' w1 ⟨rfl, hb1⟩
    go_wp2_with fail
    refine (cE _).mono ?_
    rintro e' w2 ⟨rfl, hb2⟩
    go_wp2
    go_ret
    have hs1 := hb1.size
    have hs2 := hb2.size
    simp at hs1 hs2
    exact ⟨rfl, ((((Below.refl w.heap.size w).alloc (Nat.le_refl _) (.cells #[.int .u64 (limb b 1), .int .u64 (limb b 0)] 27 (0, 0))).trans (hb1.mono (by simp))).alloc (by omega) (.cells (limbs t) 54 (0, 0))).trans (hb2.mono (by simp; omega))⟩
set_option maxHeartbeats 3200000 in
set_option maxRecDepth 100000 in
theorem kindClass_pow (f b e t em p : Nat) (neg qb : Bool) (w : World) (hem : em ≤ 16383) (hp1 : 11 ≤ p) (hp2 : p ≤ 113) (ht : t < top6) (hT : Tab w)
    (cF : ∀ w, Tab w → Calls Tryd.prog 108 #[.int .u8 f, BV b] w fun e' w' => e' = .returned (.tuple #[.bool neg, .int .i64 (e : Nat), W t]) ∧ Below w.heap.size w w')
    (cE : ∀ w, Calls Tryd.prog 55 #[.int .u8 f] w fun e' w' => e' = .returned (.int .i64 (em : Nat)) ∧ Below w.heap.size w w')
    (cP : ∀ w, Calls Tryd.prog 65 #[.int .u8 f] w fun e' w' => e' = .returned (.int .i64 (p : Nat)) ∧ Below w.heap.size w w')
    (hz : decide (t = 0) = true) (hx : ¬ (e : Int) = 2 * (em : Int) + 1) (hy : 0 < (e : Int)) :
    Calls Tryd.prog 94 #[.int .u8 f, BV b] w fun e' w' => e' = .returned (.int .u8 (cond neg (7 - 6) 6)) ∧ Below w.heap.size w w' := by
  have eq0 := fun w => (run_equal_zero w t ht).trans (by rw [hz])
  have eq1 : ∀ w, (Op.equalIn 10000 54 (.agg (limbs t)) (.agg #[.int .u64 0, .int .u64 0, .int .u64 0, .int .u64 0, .int .u64 0, .int .u64 0])).run Tryd.prog w = .ok true w := eq0
  have vp : IntKind.i64.wrap ((p : Int) - 2) = ((p - 2 : Nat) : Int) := by rw [show (p : Int) - 2 = ((p - 2 : Nat) : Int) by omega]; exact IntWalk.i64_in _ (by omega)
  have HT := Lib.hid (hT.below ((Below.refl w.heap.size w).alloc (Nat.le_refl _) (.cells #[.int .u64 (limb b 1), .int .u64 (limb b 0)] 27 (0, 0))))
  have HA := Lib.hid ht
  have hxb : ((e : Int) == 2 * (em : Int) + 1) = false := by simp; omega
  have hyb : ((e : Int) == 0) = false := by simp; omega
  clear ht hz hT hp1 hp2 vp
  cases neg <;>
  · go_enter Tryd.func94, Tryd.ntmps94
    go_wp2_with fail
    refine (cF _ HT.out).mono ?_
    rintro e' w1 ⟨rfl, hb1⟩
    go_wp2_with fail
    refine (cE _).mono ?_
    rintro e' w2 ⟨rfl, hb2⟩
    go_wp2_with fail
    refine (cE _).mono ?_
    rintro e' w3 ⟨rfl, hb3⟩
    go_wp2
    go_ret
    have hs1 := hb1.size
    have hs2 := hb2.size
    simp at hs1 hs2
    exact ⟨rfl, (((((Below.refl w.heap.size w).alloc (Nat.le_refl _) (.cells #[.int .u64 (limb b 1), .int .u64 (limb b 0)] 27 (0, 0))).trans (hb1.mono (by simp))).alloc (by omega) (.cells (limbs t) 54 (0, 0))).trans (hb2.mono (by simp; omega))).trans (hb3.mono (by omega))⟩
set_option maxHeartbeats 3200000 in
set_option maxRecDepth 100000 in
theorem kindClass_sub (f b e t em p : Nat) (neg qb : Bool) (w : World) (hem : em ≤ 16383) (hp1 : 11 ≤ p) (hp2 : p ≤ 113) (ht : t < top6) (hT : Tab w)
    (cF : ∀ w, Tab w → Calls Tryd.prog 108 #[.int .u8 f, BV b] w fun e' w' => e' = .returned (.tuple #[.bool neg, .int .i64 (e : Nat), W t]) ∧ Below w.heap.size w w')
    (cE : ∀ w, Calls Tryd.prog 55 #[.int .u8 f] w fun e' w' => e' = .returned (.int .i64 (em : Nat)) ∧ Below w.heap.size w w')
    (cP : ∀ w, Calls Tryd.prog 65 #[.int .u8 f] w fun e' w' => e' = .returned (.int .i64 (p : Nat)) ∧ Below w.heap.size w w')
    (hz : decide (t = 0) = false) (hx : ¬ (e : Int) = 2 * (em : Int) + 1) (hy : (e : Int) = 0) :
    Calls Tryd.prog 94 #[.int .u8 f, BV b] w fun e' w' => e' = .returned (.int .u8 (cond neg (7 - 5) 5)) ∧ Below w.heap.size w w' := by
  have eq0 := fun w => (run_equal_zero w t ht).trans (by rw [hz])
  have eq1 : ∀ w, (Op.equalIn 10000 54 (.agg (limbs t)) (.agg #[.int .u64 0, .int .u64 0, .int .u64 0, .int .u64 0, .int .u64 0, .int .u64 0])).run Tryd.prog w = .ok false w := eq0
  have vp : IntKind.i64.wrap ((p : Int) - 2) = ((p - 2 : Nat) : Int) := by rw [show (p : Int) - 2 = ((p - 2 : Nat) : Int) by omega]; exact IntWalk.i64_in _ (by omega)
  have HT := Lib.hid (hT.below ((Below.refl w.heap.size w).alloc (Nat.le_refl _) (.cells #[.int .u64 (limb b 1), .int .u64 (limb b 0)] 27 (0, 0))))
  have HA := Lib.hid ht
  have hxb : ((e : Int) == 2 * (em : Int) + 1) = false := by simp; omega
  have hyb : ((e : Int) == 0) = true := by simp; omega
  clear ht hz hT hp1 hp2 vp
  cases neg <;>
  · go_enter Tryd.func94, Tryd.ntmps94
    go_wp2_with fail
    refine (cF _ HT.out).mono ?_
    rintro e' w1 ⟨rfl, hb1⟩
    go_wp2_with fail
    refine (cE _).mono ?_
    rintro e' w2 ⟨rfl, hb2⟩
    go_wp2
    go_ret
    have hs1 := hb1.size
    have hs2 := hb2.size
    simp at hs1 hs2
    exact ⟨rfl, ((((Below.refl w.heap.size w).alloc (Nat.le_refl _) (.cells #[.int .u64 (limb b 1), .int .u64 (limb b 0)] 27 (0, 0))).trans (hb1.mono (by simp))).alloc (by omega) (.cells (limbs t) 54 (0, 0))).trans (hb2.mono (by simp; omega))⟩
set_option maxHeartbeats 3200000 in
set_option maxRecDepth 100000 in
theorem kindClass_zer (f b e t em p : Nat) (neg qb : Bool) (w : World) (hem : em ≤ 16383) (hp1 : 11 ≤ p) (hp2 : p ≤ 113) (ht : t < top6) (hT : Tab w)
    (cF : ∀ w, Tab w → Calls Tryd.prog 108 #[.int .u8 f, BV b] w fun e' w' => e' = .returned (.tuple #[.bool neg, .int .i64 (e : Nat), W t]) ∧ Below w.heap.size w w')
    (cE : ∀ w, Calls Tryd.prog 55 #[.int .u8 f] w fun e' w' => e' = .returned (.int .i64 (em : Nat)) ∧ Below w.heap.size w w')
    (cP : ∀ w, Calls Tryd.prog 65 #[.int .u8 f] w fun e' w' => e' = .returned (.int .i64 (p : Nat)) ∧ Below w.heap.size w w')
    (hz : decide (t = 0) = true) (hx : ¬ (e : Int) = 2 * (em : Int) + 1) (hy : (e : Int) = 0) :
    Calls Tryd.prog 94 #[.int .u8 f, BV b] w fun e' w' => e' = .returned (.int .u8 (cond neg (7 - 4) 4)) ∧ Below w.heap.size w w' := by
  have eq0 := fun w => (run_equal_zero w t ht).trans (by rw [hz])
  have eq1 : ∀ w, (Op.equalIn 10000 54 (.agg (limbs t)) (.agg #[.int .u64 0, .int .u64 0, .int .u64 0, .int .u64 0, .int .u64 0, .int .u64 0])).run Tryd.prog w = .ok true w := eq0
  have vp : IntKind.i64.wrap ((p : Int) - 2) = ((p - 2 : Nat) : Int) := by rw [show (p : Int) - 2 = ((p - 2 : Nat) : Int) by omega]; exact IntWalk.i64_in _ (by omega)
  have HT := Lib.hid (hT.below ((Below.refl w.heap.size w).alloc (Nat.le_refl _) (.cells #[.int .u64 (limb b 1), .int .u64 (limb b 0)] 27 (0, 0))))
  have HA := Lib.hid ht
  have hxb : ((e : Int) == 2 * (em : Int) + 1) = false := by simp; omega
  have hyb : ((e : Int) == 0) = true := by simp; omega
  clear ht hz hT hp1 hp2 vp
  cases neg <;>
  · go_enter Tryd.func94, Tryd.ntmps94
    go_wp2_with fail
    refine (cF _ HT.out).mono ?_
    rintro e' w1 ⟨rfl, hb1⟩
    go_wp2_with fail
    refine (cE _).mono ?_
    rintro e' w2 ⟨rfl, hb2⟩
    go_wp2
    go_ret
    have hs1 := hb1.size
    have hs2 := hb2.size
    simp at hs1 hs2
    exact ⟨rfl, ((((Below.refl w.heap.size w).alloc (Nat.le_refl _) (.cells #[.int .u64 (limb b 1), .int .u64 (limb b 0)] 27 (0, 0))).trans (hb1.mono (by simp))).alloc (by omega) (.cells (limbs t) 54 (0, 0))).trans (hb2.mono (by simp; omega))⟩
end Go.Proofs.YtdcgcjmajacgiaaDoor

namespace Go.Proofs.YtdcgcjmajacgiaaDoor
open Go.RowKit
theorem u8_eq {x y : Int} {e : Ending} {P : Prop} (h : x = y) (k : e = .returned (.int .u8 x) ∧ P) : e = .returned (.int .u8 y) ∧ P := by rw [← h]; exact k
theorem kindclass_any (f b : Nat) (w : World) (hf : f < 4) (hb : b < 2 ^ (64 * 2)) (hT : Tab w) :
    Calls Tryd.prog 94 #[.int .u8 f, BV b] w fun e w' => e = .returned (.int .u8 (clsN f b : Nat)) ∧ Below w.heap.size w w' := by
  have cF := fun w hT => kindFields_any f b w hf hb hT
  have cE := fun w => shapeEmax_any f w (by omega)
  have cP := fun w => shapePrecision_any f w (by omega)
  obtain ⟨p1, p2, -, -, -, -⟩ := formB f hf
  have em := eF_le f
  have ht : b % 2 ^ (pF f - 1) < top6 := Nat.lt_of_le_of_lt (Nat.mod_le _ _) (lt_top_bits b hb)
  unfold clsN
  generalize b % 2 ^ (pF f - 1) = t at *
  generalize expN f b = e at *
  generalize b.testBit (wF f - 1) = neg at *
  generalize eF f = m at *
  generalize pF f = p at *
  by_cases hx : e = 2 * m + 1
  · have hy : 0 < (e : Int) := by omega
    have hx' : (e : Int) = 2 * (m : Int) + 1 := by omega
    rw [if_pos hx]
    by_cases hz : t = 0
    · rw [if_pos hz]
      exact (kindClass_inf f b e t m p neg false w em p1 p2 ht hT cF cE cP (decide_eq_true hz) hx' hy).mono fun e' w' h => u8_eq (by cases neg <;> rfl) h
    · rw [if_neg hz]
      exact (kindClass_nan f b e t m p neg (t.testBit (p - 2)) w em p1 p2 ht hT cF cE cP (decide_eq_false hz) hx' hy rfl).mono fun e' w' h => u8_eq (by cases t.testBit (p - 2) <;> rfl) h
  · have hx' : ¬ (e : Int) = 2 * (m : Int) + 1 := by omega
    rw [if_neg hx]
    by_cases hy : e = 0
    · have hy' : (e : Int) = 0 := by omega
      rw [if_pos hy]
      by_cases hz : t = 0
      · rw [if_pos hz]
        exact (kindClass_zer f b e t m p neg false w em p1 p2 ht hT cF cE cP (decide_eq_true hz) hx' hy').mono fun e' w' h => u8_eq (by cases neg <;> rfl) h
      · rw [if_neg hz]
        exact (kindClass_sub f b e t m p neg false w em p1 p2 ht hT cF cE cP (decide_eq_false hz) hx' hy').mono fun e' w' h => u8_eq (by cases neg <;> rfl) h
    · have hy' : 0 < (e : Int) := by omega
      rw [if_neg hy]
      by_cases hz : t = 0
      · exact (kindClass_pow f b e t m p neg false w em p1 p2 ht hT cF cE cP (decide_eq_true hz) hx' hy').mono fun e' w' h => u8_eq (by cases neg <;> rfl) h
      · exact (kindClass_nor f b e t m p neg false w em p1 p2 ht hT cF cE cP (decide_eq_false hz) hx' hy').mono fun e' w' h => u8_eq (by cases neg <;> rfl) h
end Go.Proofs.YtdcgcjmajacgiaaDoor
