/- The contracts of wide.Low and of the counts. -/
import Derived.Test.YtjgonofkklpgaaaDoorWeq
namespace Go.Proofs.YtjgonofkklpgaaaDoor
open Go.RowKit

/-- How many noughts stand at the low end; 384 of 0. -/
def lowN (a : Nat) : Nat := if a = 0 then 384 else Lib.ctzFrom (64 * 6) a
/-- It is the one place at which a number that is not 0 has its lowest bit. -/
theorem odd_unique (c d m n : Nat) (h : 2 ^ c * (2 * m + 1) = 2 ^ d * (2 * n + 1)) : c = d := by
  rcases Nat.lt_trichotomy c d with hl | hl | hl
  · have e : 2 ^ d = 2 ^ c * (2 * 2 ^ (d - c - 1)) := by
      rw [show d = c + (1 + (d - c - 1)) by omega, Nat.pow_add, Nat.pow_add]; simp
    rw [e, Nat.mul_assoc] at h
    have := Nat.eq_of_mul_eq_mul_left (Nat.two_pow_pos c) h
    rw [Nat.mul_assoc] at this
    omega
  · exact hl
  · have e : 2 ^ c = 2 ^ d * (2 * 2 ^ (c - d - 1)) := by
      rw [show c = d + (1 + (c - d - 1)) by omega, Nat.pow_add, Nat.pow_add]; simp
    rw [e, Nat.mul_assoc] at h
    have := Nat.eq_of_mul_eq_mul_left (Nat.two_pow_pos d) h
    rw [Nat.mul_assoc] at this
    omega
theorem lowN_spec (a : Nat) (h : a < top6) (h0 : a ≠ 0) : ∃ m, a = 2 ^ lowN a * (2 * m + 1) ∧ lowN a < 384 := by
  unfold lowN
  rw [if_neg h0]
  unfold top6 at h
  obtain ⟨m, e, hc⟩ := Lib.ctzFrom_spec (64 * 6) a (Nat.pos_of_ne_zero h0) h
  exact ⟨m, e, by omega⟩
theorem lowN_eq (a c m : Nat) (h : a < top6) (e : a = 2 ^ c * (2 * m + 1)) : lowN a = c := by
  have h0 : a ≠ 0 := by
    have := Nat.two_pow_pos c
    rw [e]; exact Nat.mul_ne_zero (by omega) (by omega)
  obtain ⟨m', e', _⟩ := lowN_spec a h h0
  exact odd_unique _ _ m' m (by rw [← e', ← e])
/-- Words lower than k are 0. -/
def LowZero (a k : Nat) : Prop := a % 2 ^ (64 * k) = 0
theorem lowZero_step (a k : Nat) (h : LowZero a k) (hz : limbN a k = 0) : LowZero a (k + 1) := by
  unfold LowZero at *
  rw [mod_low, h, hz]; simp
theorem low_word (a k : Nat) (hk : k < 6) (ha : a < top6) (h : LowZero a k) (hz : limbN a k ≠ 0) : lowN a = 64 * k + Lib.ctz 64 (limbN a k) := by
  unfold LowZero at h
  have hx := limbN_lt a k
  obtain ⟨m, e, hc⟩ := Lib.ctzFrom_spec 64 (limbN a k) (Nat.pos_of_ne_zero hz) hx
  have hct : Lib.ctz 64 (limbN a k) = Lib.ctzFrom 64 (limbN a k) := by unfold Lib.ctz; rw [if_neg hz]
  rw [hct]
  generalize Lib.ctzFrom 64 (limbN a k) = c at *
  have h1 : a = 2 ^ (64 * k) * (a / 2 ^ (64 * k)) := by have := Nat.div_add_mod a (2 ^ (64 * k)); omega
  have h2 : a / 2 ^ (64 * k) = 18446744073709551616 * (a / 2 ^ (64 * k) / 18446744073709551616) + limbN a k := (Nat.div_add_mod _ _).symm
  apply lowN_eq a _ (m + 2 ^ (63 - c) * (a / 2 ^ (64 * k) / 18446744073709551616)) ha
  generalize a / 2 ^ (64 * k) / 18446744073709551616 = q at *
  rw [h1, h2, e, Nat.pow_add, Nat.mul_assoc]
  congr 1
  have hp : (18446744073709551616 : Nat) = 2 ^ c * (2 * 2 ^ (63 - c)) := by
    have : (2 : Nat) * 2 ^ (63 - c) = 2 ^ (1 + (63 - c)) := by rw [Nat.pow_add]
    rw [this, ← Nat.pow_add, show c + (1 + (63 - c)) = 64 by omega]
  rw [hp, Nat.mul_assoc, ← Nat.mul_add]
  congr 1
  rw [Nat.mul_assoc]; omega
theorem lowW_limb (a i : Nat) : lowW (limb a i) = (Lib.ctz 64 (limbN a i) : Nat) := by
  unfold lowW limb; rw [Int.toNat_natCast]
theorem ctz_le (x : Nat) (h : x < 18446744073709551616) : Lib.ctz 64 x ≤ 64 := by
  unfold Lib.ctz
  by_cases hx : x = 0
  · rw [if_pos hx]; omega
  · rw [if_neg hx]
    obtain ⟨m, _, hc⟩ := Lib.ctzFrom_spec 64 x (Nat.pos_of_ne_zero hx) h
    omega

set_option maxHeartbeats 1600000 in
set_option maxRecDepth 100000 in
theorem wideLow_any (a : Nat) (w : World) (h : a < top6) (hT : Tab w) :
    Calls Tryd.prog 158 #[W a] w fun e w' => e = .returned (.int .i64 (lowN a : Nat)) ∧ Below w.heap.size w w' := by
  have sa := limbs_size a
  obtain ⟨c0, c1, c2, c3, c4, c5⟩ := (Blk.new (T := 35) w (limbs a)).six
  have HT := Lib.hid hT
  have HA := Lib.hid h
  clear hT h
  go_enter Tryd.func158, Tryd.ntmps158
  go_wp2_with fail
  go_loopw [6] (fun i wr => ∃ k : Nat, k ≤ 6 ∧ i = .int .i64 (k : Int) ∧ LowZero a k ∧ Below w.heap.size w wr) (fun i _ => 6 - (intOf i).toNat)
  case atStart => exact ⟨0, by omega, rfl, by unfold LowZero; exact Nat.mod_one a, (Below.refl _ _).alloc (Nat.le_refl _) _⟩
  case round =>
    obtain ⟨k, hk, rfl, hZ, hbel⟩ := hrel
    by_cases hlt : k < 6
    · have ix := run_index_wide wr a k hlt
      by_cases hz : limbN a k = 0
      · have z : limb a k = 0 := by unfold limb; rw [hz]; rfl
        rw [z] at ix
        have S := lowZero_step a k hZ hz
        clear hz z hZ
        go_wp2_with fail
        go_roundw
        case rel => exact ⟨k + 1, by omega, by go_num, S, hbel⟩
        case measure => simp [intOf]; omega
      · have z : (limb a k != 0) = true := by unfold limb; simpa using hz
        have L := Lib.hid (low_word a k hlt HA.out hZ hz)
        have lw := lowW_limb a k
        have b0 : 0 ≤ lowW (limb a k) := by rw [lw]; omega
        have b1 : lowW (limb a k) ≤ 64 := by rw [lw]; have := ctz_le (limbN a k) (limbN_lt a k); omega
        have LW := Lib.hid lw
        clear hz lw hZ
        go_wp2_with fail
        refine (wordLow_any _ _ (limb_w a k) (HT.out.below hbel)).mono ?_
        rintro e w' ⟨rfl, rfl⟩
        go_wp2_with fail
        go_ret
        exact ⟨ret_int (by rw [LW.out, L.out]; omega), hbel⟩
    · have : k = 6 := by omega
      subst this
      have Z := Lib.hid (show (384 : Int) = (lowN a : Nat) by
        have h0 : a = 0 := by
          have := hZ
          have h6 := HA.out
          unfold LowZero at this
          unfold top6 at h6
          rwa [Nat.mod_eq_of_lt h6] at this
        subst h0; rfl)
      clear hZ
      go_wp2_with fail
      go_ret
      exact ⟨ret_int Z.out, hbel⟩
theorem wideCount_any (n : Int) (w : World) :
    Calls Tryd.prog 120 #[.int .i64 n] w fun e w' => e = .returned (.int .i64 (min (max n 0) 384)) ∧ w = w' := by
  go_enter Tryd.func120, Tryd.ntmps120
  go_wp2
  go_ret
  exact ⟨rfl, rfl⟩
end Go.Proofs.YtjgonofkklpgaaaDoor
