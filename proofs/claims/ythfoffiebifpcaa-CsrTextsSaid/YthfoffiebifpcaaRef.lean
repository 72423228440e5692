/- The contracts of the document's answer for layer 21, on numbers. -/
import Derived.Test.YthfoffiebifpcaaAct
namespace Go.Proofs.Ythfoffiebifpcaa
open Go.RowKit

def bitB (x k : Int) : Bool := decide (x / 2 ^ k.toNat % 2 = 1)

theorem and1 (x : Int) (h0 : 0 ≤ x) (h1 : x < 18446744073709551616) : Go.bits .and .u64 x 1 = x % 2 := by
  rw [u64_and x 1 h0 h1 (by decide) (by decide), show (1 : Int).toNat = 1 from rfl, nat_mask1]; omega
theorem bitB_eq (x k : Int) (h0 : 0 ≤ x) (h1 : x < 18446744073709551616) : (Go.bits .and .u64 (x / 2 ^ k.toNat) 1 == 1) = bitB x k := by
  have hp : (0 : Int) < 2 ^ k.toNat := Int.pow_pos (by decide)
  have q0 : 0 ≤ x / 2 ^ k.toNat := Int.ediv_nonneg h0 (Int.le_of_lt hp)
  have q1 : x / 2 ^ k.toNat ≤ x := Int.ediv_le_self _ h0
  rw [and1 _ q0 (by omega)]
  unfold bitB
  rw [Bool.eq_iff_iff]; simp

theorem bit_any (x k : Int) (w : World) (h0 : 0 ≤ x) (h1 : x < 18446744073709551616) (k0 : 0 ≤ k) (k1 : k < 64) :
    Calls Try.prog 30 #[.int .u64 x, .int .i64 k] w fun e w' => e = .returned (.bool (bitB x k)) ∧ w = w' := by
  go_enter Try.func30, Try.ntmps30
  go_wp2
  go_ret
  exact ⟨by rw [← bitB_eq x k h0 h1]; rfl, rfl⟩

theorem bitB_nat (x k : Nat) : bitB (x : Int) (k : Int) = x.testBit k := by
  unfold bitB
  rw [Nat.testBit_eq_decide_div_mod_eq, Bool.eq_iff_iff, decide_eq_true_iff, decide_eq_true_iff]
  have : (x : Int) / 2 ^ (k : Int).toNat % 2 = ((x / 2 ^ k % 2 : Nat) : Int) := by simp
  rw [this]; omega
theorem mod_succ (x k : Nat) : x % 2 ^ (k + 1) = x % 2 ^ k + if x.testBit k then 2 ^ k else 0 := by
  rw [Nat.pow_succ, Nat.mod_mul, Nat.testBit_eq_decide_div_mod_eq]
  rcases Nat.mod_two_eq_zero_or_one (x / 2 ^ k) with h | h <;> rw [h] <;> simp

theorem acc_step : ∀ c < 256, ∀ f < 32, ∀ k < 5, (c ||| f % 2 ^ (k + 1)) = (c ||| f % 2 ^ k) + if f.testBit k && !(c ||| f % 2 ^ k).testBit k then 2 ^ k else 0 := by
  decide +kernel

theorem sum8 (a p : Int) (h0 : 0 ≤ a) (hp : 0 ≤ p) (h : a + p < 256) : (a + p % 256) % 256 = a + p := by omega

def accS (c f : Int) (k : Nat) : Int := orM c (f % 2 ^ k)
theorem accS_bd (c f : Int) (k : Nat) (hc0 : 0 ≤ c) (hc1 : c < 256) (f0 : 0 ≤ f) (f1 : f < 32) : 0 ≤ accS c f k ∧ accS c f k < 256 := by
  have h0 : 0 ≤ f % 2 ^ k := Int.emod_nonneg _ (by exact Int.ne_of_gt (Int.pow_pos (by decide)))
  have h1 : f % 2 ^ k ≤ f := by
    obtain ⟨f, rfl⟩ := Int.eq_ofNat_of_zero_le f0
    have := Nat.mod_le f (2 ^ k)
    exact_mod_cast this
  have : c.toNat ||| (f % 2 ^ k).toNat < 2 ^ 8 := Nat.or_lt_two_pow (by omega) (by omega)
  unfold accS orM; omega
theorem accS_nat (c f k : Nat) : accS (c : Int) (f : Int) k = ((c ||| f % 2 ^ k : Nat) : Int) := by
  unfold accS orM
  have : (f : Int) % 2 ^ k = ((f % 2 ^ k : Nat) : Int) := by simp
  rw [this, Int.toNat_natCast, Int.toNat_natCast]
theorem accS_yes (c f : Int) (k : Nat) (hc0 : 0 ≤ c) (hc1 : c < 256) (f0 : 0 ≤ f) (f1 : f < 32) (hk : k < 5) (h : bitB f k = true) (h' : bitB (accS c f k) k = false) : accS c f (k + 1) = accS c f k + 2 ^ k := by
  obtain ⟨c, rfl⟩ := Int.eq_ofNat_of_zero_le hc0
  obtain ⟨f, rfl⟩ := Int.eq_ofNat_of_zero_le f0
  have := acc_step c (by omega) f (by omega) k hk
  rw [accS_nat] at h' ⊢
  rw [bitB_nat] at h h'
  rw [accS_nat, this, h, h']; simp
theorem accS_no (c f : Int) (k : Nat) (hc0 : 0 ≤ c) (hc1 : c < 256) (f0 : 0 ≤ f) (f1 : f < 32) (hk : k < 5) (h : bitB f k = false ∨ bitB (accS c f k) k = true) : accS c f (k + 1) = accS c f k := by
  obtain ⟨c, rfl⟩ := Int.eq_ofNat_of_zero_le hc0
  obtain ⟨f, rfl⟩ := Int.eq_ofNat_of_zero_le f0
  have := acc_step c (by omega) f (by omega) k hk
  rw [accS_nat] at h ⊢
  rw [bitB_nat, bitB_nat] at h
  rw [accS_nat, this]
  rcases h with h | h <;> rw [h] <;> simp

set_option maxHeartbeats 800000 in
set_option maxRecDepth 100000 in
theorem raccrue_any (c f : Int) (w : World) (hc0 : 0 ≤ c) (hc1 : c < 256) (f0 : 0 ≤ f) (f1 : f < 256) :
    Calls Try.prog 13 #[.int .u8 c, .int .u8 f] w fun e w' => e = .returned (.tuple #[.int .u8 (accrueM c f).1, .int .i64 (accrueM c f).2]) ∧ w = w' := by
  by_cases b : 31 < f
  · have H := Lib.hid (show accrueM c f = (0, 2) by simp [accrueM, b])
    go_enter Try.func13, Try.ntmps13
    go_wp2
    go_ret2
    exact ⟨by rw [H.out]; rfl, rfl⟩
  have hb : f < 32 := by omega
  have H := Lib.hid (show accrueM c f = (accS c f 5, 0) by
    unfold accrueM accS; rw [if_neg b, Int.emod_eq_of_lt f0 (by omega)])
  go_enter Try.func13, Try.ntmps13
  go_wp2
  go_loop [0, 6] (fun v i => ∃ k : Nat, k ≤ 5 ∧ i = .int .i64 k ∧ v = .int .u8 (accS c f k)) (fun _ i => 5 - (intOf i).toNat)
  case atStart => exact ⟨0, by omega, rfl, by simp [accS, orM, Int.toNat_of_nonneg hc0]⟩
  case round =>
    obtain ⟨k, hk, rfl, rfl⟩ := hrel
    obtain ⟨s0, s1⟩ := accS_bd c f k hc0 hc1 f0 hb
    by_cases hlt : k < 5
    · cases hb1 : bitB f k
      · have N := Lib.hid (accS_no c f k hc0 hc1 f0 hb hlt (.inl hb1))
        go_wp2_with fail
        refine (bit_any _ _ _ f0 (by omega) (by omega) (by omega)).mono ?_
        rintro e w' ⟨rfl, rfl⟩
        go_wp2_with fail
        go_round
        case rel => exact ⟨k + 1, by omega, by go_num, by rw [N.out]⟩
        case measure => simp [intOf]; omega
      · cases hb2 : bitB (accS c f k) k
        · have N := Lib.hid (accS_yes c f k hc0 hc1 f0 hb hlt hb1 hb2)
          have P : accS c f k + 2 ^ k < 256 := by rw [← N.out]; exact (accS_bd c f (k + 1) hc0 hc1 f0 hb).2
          go_wp2_with fail
          refine (bit_any _ _ _ f0 (by omega) (by omega) (by omega)).mono ?_
          rintro e w' ⟨rfl, rfl⟩
          go_wp2_with fail
          refine (bit_any _ _ _ s0 (by omega) (by omega) (by omega)).mono ?_
          rintro e w' ⟨rfl, rfl⟩
          go_wp2_with fail
          go_round
          case rel => exact ⟨k + 1, by omega, by go_num, by rw [N.out]; exact congrArg (Value.int .u8) (sum8 _ _ s0 (Int.le_of_lt (Int.pow_pos (by decide))) P)⟩
          case measure => simp [intOf]; omega
        · have N := Lib.hid (accS_no c f k hc0 hc1 f0 hb hlt (.inr hb2))
          go_wp2_with fail
          refine (bit_any _ _ _ f0 (by omega) (by omega) (by omega)).mono ?_
          rintro e w' ⟨rfl, rfl⟩
          go_wp2_with fail
          refine (bit_any _ _ _ s0 (by omega) (by omega) (by omega)).mono ?_
          rintro e w' ⟨rfl, rfl⟩
          go_wp2_with fail
          go_round
          case rel => exact ⟨k + 1, by omega, by go_num, by rw [N.out]⟩
          case measure => simp [intOf]; omega
    · have : k = 5 := by omega
      subst this
      go_wp2
      go_ret2
      exact ⟨by rw [H.out]; rfl, rfl⟩
theorem rmode_any (c rm : Int) (w : World) (hc0 : 0 ≤ c) (hc1 : c < 256) (h0 : 0 ≤ rm) (h1 : rm < 256) :
    Calls Try.prog 9 #[.int .u8 c, .int .u8 rm] w fun e w' => e = .returned (.tuple #[.int .u8 (modeM c rm).1, .int .i64 (modeM c rm).2]) ∧ w = w' := by
  by_cases a : 7 < rm
  · have H := Lib.hid (show modeM c rm = (0, 2) by simp [modeM, a])
    go_enter Try.func9, Try.ntmps9
    go_wp2
    go_ret2
    exact ⟨by rw [H.out]; rfl, rfl⟩
  by_cases b : rm = 7
  · subst b
    by_cases d : 4 < c / 32
    · have H := Lib.hid (show modeM c 7 = (0, 211) by simp [modeM, d])
      go_enter Try.func9, Try.ntmps9
      go_wp2
      go_ret2
      exact ⟨by rw [H.out]; rfl, rfl⟩
    · have H := Lib.hid (show modeM c 7 = (c / 32, 0) by simp [modeM, d])
      go_enter Try.func9, Try.ntmps9
      go_wp2
      go_ret2
      exact ⟨by rw [H.out]; rfl, rfl⟩
  have b1 : (rm == 7) = false := by simpa using b
  by_cases d : 4 < rm
  · have H := Lib.hid (show modeM c rm = (0, 211) by simp [modeM, a, b, d])
    clear b
    go_enter Try.func9, Try.ntmps9
    go_wp2
    go_ret2
    exact ⟨by rw [H.out]; rfl, rfl⟩
  · have H := Lib.hid (show modeM c rm = (rm, 0) by simp [modeM, a, b, d])
    clear b
    go_enter Try.func9, Try.ntmps9
    go_wp2
    go_ret2
    exact ⟨by rw [H.out]; rfl, rfl⟩

theorem rmake_any (rm f : Int) (w : World) (h0 : 0 ≤ rm) (h1 : rm < 256) (f0 : 0 ≤ f) (f1 : f < 256) :
    Calls Try.prog 11 #[.int .u8 rm, .int .u8 f] w fun e w' => e = .returned (.tuple #[.int .u8 (makeM rm f).1, .int .i64 (makeM rm f).2]) ∧ w = w' := by
  by_cases a : 7 < rm
  · have H := Lib.hid (show makeM rm f = (0, 2) by simp [makeM, a])
    go_enter Try.func11, Try.ntmps11
    go_wp2
    go_ret2
    exact ⟨by rw [H.out]; rfl, rfl⟩
  by_cases b : 31 < f
  · have H := Lib.hid (show makeM rm f = (0, 2) by simp [makeM, a, b])
    go_enter Try.func11, Try.ntmps11
    go_wp2
    go_ret2
    exact ⟨by rw [H.out]; rfl, rfl⟩
  have H := Lib.hid (show makeM rm f = (32 * rm + f, 0) by simp [makeM, a, b]; omega)
  go_enter Try.func11, Try.ntmps11
  go_wp2
  go_ret2
  exact ⟨by rw [H.out]; rfl, rfl⟩
end Go.Proofs.Ythfoffiebifpcaa
