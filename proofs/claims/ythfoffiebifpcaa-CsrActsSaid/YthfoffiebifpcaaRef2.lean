/- The contracts of the document's Read, Write and Act. -/
import Derived.Test.YthfoffiebifpcaaRef
namespace Go.Proofs.Ythfoffiebifpcaa
open Go.RowKit

/-- Where a control register's bits begin, and how many they are. -/
def lowN (n : Int) : Nat := if n = 2 then 5 else 0
def manyN (n : Int) : Nat := if n = 1 then 5 else if n = 2 then 3 else 8

set_option maxRecDepth 100000 in
theorem part_ok (n : Int) (w : World) (n1 : 1 ≤ n) (n3 : n ≤ 3) :
    Calls Try.prog 31 #[.int .i64 n] w fun e w' => e = .returned (.tuple #[.int .i64 (lowN n), .int .i64 (manyN n)]) ∧ w = w' := by
  have : n = 1 ∨ n = 2 ∨ n = 3 := by omega
  rcases this with rfl | rfl | rfl <;>
  · go_enter Try.func31, Try.ntmps31
    go_wp2
    go_ret2
    exact ⟨rfl, rfl⟩
theorem part_no (n : Int) (w : World) (h : n < 1 ∨ 3 < n) :
    Calls Try.prog 31 #[.int .i64 n] w fun e w' => e = .returned (.tuple #[.int .i64 0, .int .i64 0]) ∧ w = w' := by
  have a1 : (n == 1) = false := by simp; omega
  have b1 : (n == 2) = false := by simp; omega
  have d1 : (n == 3) = false := by simp; omega
  clear h
  go_enter Try.func31, Try.ntmps31
  go_wp2
  go_ret2
  exact ⟨rfl, rfl⟩
theorem lowmany (n : Int) (n1 : 1 ≤ n) (n3 : n ≤ 3) : lowN n + manyN n ≤ 8 ∧ 0 < manyN n := by
  have : n = 1 ∨ n = 2 ∨ n = 3 := by omega
  rcases this with rfl | rfl | rfl <;> decide

/-- The lowest k bits of a number. -/
def lowB (X : Int) (k : Nat) : Int := ((X.toNat % 2 ^ k : Nat) : Int)
theorem lowB_lt (X : Int) (k : Nat) : 0 ≤ lowB X k ∧ lowB X k < 2 ^ k := by
  have := Nat.mod_lt X.toNat (Nat.two_pow_pos k)
  unfold lowB
  constructor
  · omega
  · exact_mod_cast this
theorem lowB_step (X : Int) (k : Nat) (h0 : 0 ≤ X) : lowB X (k + 1) = lowB X k + if bitB X k then 2 ^ k else 0 := by
  obtain ⟨X, rfl⟩ := Int.eq_ofNat_of_zero_le h0
  rw [bitB_nat]
  simp only [lowB, Int.toNat_natCast]
  rw [mod_succ]
  cases X.testBit k <;> simp
theorem lowB_yes (X : Int) (k : Nat) (h0 : 0 ≤ X) (h : bitB X k = true) : lowB X (k + 1) = lowB X k + 2 ^ k := by rw [lowB_step X k h0, h]; simp
theorem lowB_no (X : Int) (k : Nat) (h0 : 0 ≤ X) (h : bitB X k = false) : lowB X (k + 1) = lowB X k := by rw [lowB_step X k h0, h]; simp
theorem lowB_all (X : Int) (k : Nat) (h0 : 0 ≤ X) (h : X < 2 ^ k) : lowB X k = X := by
  obtain ⟨X, rfl⟩ := Int.eq_ofNat_of_zero_le h0
  have : X < 2 ^ k := by exact_mod_cast h
  simp only [lowB, Int.toNat_natCast]
  rw [Nat.mod_eq_of_lt this]
theorem pow_le64 (k j : Nat) (h : k ≤ j) : (2 : Int) ^ k ≤ 2 ^ j := by
  have := Nat.pow_le_pow_right (show 0 < 2 by decide) h
  exact_mod_cast this
theorem sum64 (a p : Int) (h0 : 0 ≤ a) (hp : 0 ≤ p) (h : a + p < 18446744073709551616) : (a + p % 18446744073709551616) % 18446744073709551616 = a + p := by omega

theorem sum64w (a p : Int) (h0 : 0 ≤ a) (hp : 0 ≤ p) (h : a + p < 18446744073709551616) : IntKind.u64.wrap (a + IntKind.u64.wrap p) = a + p := by
  rw [IntKind.wrap_u64, IntKind.wrap_u64]; exact sum64 a p h0 hp h
theorem read_bits (n c : Int) (k : Nat) (hc0 : 0 ≤ c) (hc1 : c < 256) (n1 : 1 ≤ n) (n3 : n ≤ 3) (hk : k < manyN n) : bitB (readM n c).1 k = bitB c ((lowN n : Int) + k) := by
  have : n = 1 ∨ n = 2 ∨ n = 3 := by omega
  rcases this with rfl | rfl | rfl
  · have : k = 0 ∨ k = 1 ∨ k = 2 ∨ k = 3 ∨ k = 4 := by simp [manyN] at hk; omega
    rcases this with rfl | rfl | rfl | rfl | rfl <;> simp [bitB, readM, lowN] <;> omega
  · have : k = 0 ∨ k = 1 ∨ k = 2 := by simp [manyN] at hk; omega
    rcases this with rfl | rfl | rfl <;> simp [bitB, readM, lowN] <;> omega
  · simp [readM, lowN]
theorem read_pow (n c : Int) (hc0 : 0 ≤ c) (hc1 : c < 256) (n1 : 1 ≤ n) (n3 : n ≤ 3) : 0 ≤ (readM n c).1 ∧ (readM n c).1 < 2 ^ manyN n := by
  have : n = 1 ∨ n = 2 ∨ n = 3 := by omega
  rcases this with rfl | rfl | rfl <;> simp [readM, manyN] <;> omega

set_option maxHeartbeats 800000 in
set_option maxRecDepth 100000 in
theorem rread_gen (n c R : Int) (low many : Nat) (w : World) (hc0 : 0 ≤ c) (hc1 : c < 256) (l8 : low + many ≤ 8) (m0 : 0 < many) (R0 : 0 ≤ R)
    (PN : Hid (∀ w, Calls Try.prog 31 #[.int .i64 n] w fun e w' => e = .returned (.tuple #[.int .i64 (low : Int), .int .i64 (many : Int)]) ∧ w = w'))
    (HB : Hid (∀ k : Nat, k < many → bitB R k = bitB c ((low : Int) + k))) (HE : Hid (lowB R many = R)) :
    Calls Try.prog 18 #[.int .i64 n, .int .u8 c] w fun e w' => e = .returned (.tuple #[.int .u64 R, .int .i64 0]) ∧ w = w' := by
  have mz : ((many : Int) == 0) = false := by simp; omega
  have mz2 : (many == 0) = false := by simp; omega
  go_enter Try.func18, Try.ntmps18
  go_wp2_with fail
  refine (PN.out _).mono ?_
  rintro e w' ⟨rfl, rfl⟩
  go_wp2_with fail
  go_loop [8, 9] (fun v i => ∃ k : Nat, k ≤ many ∧ i = .int .i64 k ∧ v = .int .u64 (lowB R k)) (fun _ i => many - (intOf i).toNat)
  case atStart => exact ⟨0, by omega, rfl, by simp [lowB, Nat.mod_one]⟩
  case round =>
    obtain ⟨k, hk, rfl, rfl⟩ := hrel
    obtain ⟨s0, s1⟩ := lowB_lt R k
    by_cases hlt : k < many
    · have hb := HB.out k hlt
      cases hb1 : bitB c ((low : Int) + k)
      · rw [hb1] at hb
        have N := Lib.hid (lowB_no R k R0 hb)
        clear hb s1
        go_wp2_with fail
        refine (bit_any _ _ _ hc0 (by omega) (by omega) (by omega)).mono ?_
        rintro e w' ⟨rfl, rfl⟩
        go_wp2_with fail
        go_round
        case rel => exact ⟨k + 1, by omega, by go_num, by rw [N.out]⟩
        case measure => simp [intOf]; omega
      · rw [hb1] at hb
        have N := Lib.hid (lowB_yes R k R0 hb)
        have P := Lib.hid (show lowB R k + 2 ^ k < 18446744073709551616 by
          have := pow_le64 k 8 (by omega)
          omega)
        clear hb s1
        go_wp2_with fail
        refine (bit_any _ _ _ hc0 (by omega) (by omega) (by omega)).mono ?_
        rintro e w' ⟨rfl, rfl⟩
        go_wp2_with fail
        go_round
        case rel => exact ⟨k + 1, by omega, by go_num, by rw [N.out]; exact congrArg (Value.int .u64) (sum64w _ _ s0 (Int.le_of_lt (Int.pow_pos (by decide))) P.out)⟩
        case measure => simp [intOf]; omega
    · have : k = many := by omega
      subst this
      go_wp2
      go_ret2
      exact ⟨by rw [HE.out]; rfl, rfl⟩
theorem rread_ok (n c : Int) (w : World) (hc0 : 0 ≤ c) (hc1 : c < 256) (n1 : 1 ≤ n) (n3 : n ≤ 3) :
    Calls Try.prog 18 #[.int .i64 n, .int .u8 c] w fun e w' => e = .returned (.tuple #[.int .u64 (readM n c).1, .int .i64 0]) ∧ w = w' := by
  obtain ⟨l8, m0⟩ := lowmany n n1 n3
  obtain ⟨R0, R1⟩ := read_pow n c hc0 hc1 n1 n3
  exact rread_gen n c _ _ _ w hc0 hc1 l8 m0 R0 (fun w => part_ok n w n1 n3) (fun k hk => read_bits n c k hc0 hc1 n1 n3 hk) (lowB_all _ _ R0 R1)

theorem wbit (n c x : Int) (k : Nat) (hc0 : 0 ≤ c) (hc1 : c < 256) (h0 : 0 ≤ x) (n1 : 1 ≤ n) (n3 : n ≤ 3) (hk : k < 8) :
    bitB (writeM n c x).1 k = if lowN n ≤ k ∧ k < lowN n + manyN n then bitB x ((k : Int) - lowN n) else bitB c k := by
  have hn : n = 1 ∨ n = 2 ∨ n = 3 := by omega
  have : k = 0 ∨ k = 1 ∨ k = 2 ∨ k = 3 ∨ k = 4 ∨ k = 5 ∨ k = 6 ∨ k = 7 := by omega
  rcases hn with rfl | rfl | rfl <;> rcases this with rfl | rfl | rfl | rfl | rfl | rfl | rfl | rfl <;> simp [bitB, writeM, lowN, manyN] <;> omega
theorem write_pow (n c x : Int) (hc0 : 0 ≤ c) (hc1 : c < 256) (h0 : 0 ≤ x) : lowB (writeM n c x).1 8 = (writeM n c x).1 := by
  have h : 0 ≤ (writeM n c x).1 ∧ (writeM n c x).1 < 256 := by
    unfold writeM; split
    · constructor <;> simp <;> omega
    · split
      · constructor <;> simp <;> omega
      · split <;> constructor <;> simp <;> omega
  exact lowB_all _ _ h.1 (by omega)

set_option maxHeartbeats 1600000 in
set_option maxRecDepth 100000 in
theorem rwrite_gen (n c x R : Int) (low many : Nat) (w : World) (hc0 : 0 ≤ c) (hc1 : c < 256) (h0 : 0 ≤ x) (h1 : x < 18446744073709551616) (l8 : low + many ≤ 8) (m0 : 0 < many) (R0 : 0 ≤ R) (R1 : R < 256)
    (PN : Hid (∀ w, Calls Try.prog 31 #[.int .i64 n] w fun e w' => e = .returned (.tuple #[.int .i64 (low : Int), .int .i64 (many : Int)]) ∧ w = w'))
    (HB : Hid (∀ k : Nat, k < 8 → bitB R k = if low ≤ k ∧ k < low + many then bitB x ((k : Int) - low) else bitB c k)) (HE : Hid (lowB R 8 = R)) :
    Calls Try.prog 19 #[.int .i64 n, .int .u8 c, .int .u64 x] w fun e w' => e = .returned (.tuple #[.int .u8 R, .int .i64 0]) ∧ w = w' := by
  have mz : ((many : Int) == 0) = false := by simp; omega
  have mz2 : (many == 0) = false := by simp; omega
  go_enter Try.func19, Try.ntmps19
  go_wp2_with fail
  refine (PN.out _).mono ?_
  rintro e w' ⟨rfl, rfl⟩
  go_wp2_with fail
  go_loop [10, 11] (fun v i => ∃ k : Nat, k ≤ 8 ∧ i = .int .i64 k ∧ v = .int .u8 (lowB R k)) (fun _ i => 8 - (intOf i).toNat)
  case atStart => exact ⟨0, by omega, rfl, by simp [lowB, Nat.mod_one]⟩
  case round =>
    obtain ⟨k, hk, rfl, rfl⟩ := hrel
    obtain ⟨s0, s1⟩ := lowB_lt R k
    by_cases hlt : k < 8
    · have hb := HB.out k hlt
      have P8 : (2 : Int) ^ k ≤ 128 := pow_le64 k 7 (by omega)
      have P0 : (0 : Int) < 2 ^ k := Int.pow_pos (by decide)
      obtain ⟨p, hp⟩ : ∃ p, (2 : Int) ^ k = p := ⟨_, rfl⟩
      rw [hp] at s1 P8 P0
      by_cases hin : low ≤ k ∧ k < low + many
      · obtain ⟨hi1, hi2⟩ := hin
        rw [if_pos ⟨hi1, hi2⟩] at hb
        cases hb1 : bitB x ((k : Int) - low)
        · rw [hb1] at hb
          have N := Lib.hid (lowB_no R k R0 hb)
          clear hb s1 hp
          go_wp2_with fail
          refine (bit_any _ _ _ hc0 (by omega) (by omega) (by omega)).mono ?_
          rintro e w' ⟨rfl, rfl⟩
          go_wp2_with fail
          refine (bit_any _ _ _ h0 h1 (by omega) (by omega)).mono ?_
          rintro e w' ⟨rfl, rfl⟩
          go_wp2_with fail
          go_round
          case rel => exact ⟨k + 1, by omega, by go_num, by rw [N.out]⟩
          case measure => simp [intOf]; omega
        · rw [hb1] at hb
          have N := Lib.hid (lowB_yes R k R0 hb)
          have Q := Lib.hid hp
          clear hb hp
          go_wp2_with fail
          refine (bit_any _ _ _ hc0 (by omega) (by omega) (by omega)).mono ?_
          rintro e w' ⟨rfl, rfl⟩
          go_wp2_with fail
          refine (bit_any _ _ _ h0 h1 (by omega) (by omega)).mono ?_
          rintro e w' ⟨rfl, rfl⟩
          go_wp2_with fail
          go_round
          case rel => exact ⟨k + 1, by omega, by go_num, by rw [N.out, Q.out]; exact congrArg (Value.int .u8) (sum8 _ _ s0 (Int.le_of_lt P0) (by omega))⟩
          case measure => simp [intOf]; omega
      · rw [if_neg hin] at hb
        cases hb1 : bitB c k
        · rw [hb1] at hb
          have N := Lib.hid (lowB_no R k R0 hb)
          clear hb s1 hp
          by_cases hi1 : low ≤ k
          · have hi2 : low + many ≤ k := by omega
            clear hin
            go_wp2_with fail
            refine (bit_any _ _ _ hc0 (by omega) (by omega) (by omega)).mono ?_
            rintro e w' ⟨rfl, rfl⟩
            go_wp2_with fail
            go_round
            case rel => exact ⟨k + 1, by omega, by go_num, by rw [N.out]⟩
            case measure => simp [intOf]; omega
          · clear hin
            go_wp2_with fail
            refine (bit_any _ _ _ hc0 (by omega) (by omega) (by omega)).mono ?_
            rintro e w' ⟨rfl, rfl⟩
            go_wp2_with fail
            go_round
            case rel => exact ⟨k + 1, by omega, by go_num, by rw [N.out]⟩
            case measure => simp [intOf]; omega
        · rw [hb1] at hb
          have N := Lib.hid (lowB_yes R k R0 hb)
          have Q := Lib.hid hp
          clear hb hp
          by_cases hi1 : low ≤ k
          · have hi2 : low + many ≤ k := by omega
            clear hin
            go_wp2_with fail
            refine (bit_any _ _ _ hc0 (by omega) (by omega) (by omega)).mono ?_
            rintro e w' ⟨rfl, rfl⟩
            go_wp2_with fail
            go_round
            case rel => exact ⟨k + 1, by omega, by go_num, by rw [N.out, Q.out]; exact congrArg (Value.int .u8) (sum8 _ _ s0 (Int.le_of_lt P0) (by omega))⟩
            case measure => simp [intOf]; omega
          · clear hin
            go_wp2_with fail
            refine (bit_any _ _ _ hc0 (by omega) (by omega) (by omega)).mono ?_
            rintro e w' ⟨rfl, rfl⟩
            go_wp2_with fail
            go_round
            case rel => exact ⟨k + 1, by omega, by go_num, by rw [N.out, Q.out]; exact congrArg (Value.int .u8) (sum8 _ _ s0 (Int.le_of_lt P0) (by omega))⟩
            case measure => simp [intOf]; omega
    · have : k = 8 := by omega
      subst this
      go_wp2
      go_ret2
      exact ⟨by rw [HE.out]; rfl, rfl⟩
theorem rwrite_ok (n c x : Int) (w : World) (hc0 : 0 ≤ c) (hc1 : c < 256) (h0 : 0 ≤ x) (h1 : x < 18446744073709551616) (n1 : 1 ≤ n) (n3 : n ≤ 3) :
    Calls Try.prog 19 #[.int .i64 n, .int .u8 c, .int .u64 x] w fun e w' => e = .returned (.tuple #[.int .u8 (writeM n c x).1, .int .i64 0]) ∧ w = w' := by
  obtain ⟨l8, m0⟩ := lowmany n n1 n3
  have hb : 0 ≤ (writeM n c x).1 ∧ (writeM n c x).1 < 256 := by
    unfold writeM; split
    · constructor <;> simp <;> omega
    · split
      · constructor <;> simp <;> omega
      · split <;> constructor <;> simp <;> omega
  exact rwrite_gen n c x _ _ _ w hc0 hc1 h0 h1 l8 m0 hb.1 hb.2 (fun w => part_ok n w n1 n3) (fun k hk => wbit n c x k hc0 hc1 h0 n1 n3 hk) (write_pow n c x hc0 hc1 h0)
end Go.Proofs.Ythfoffiebifpcaa
