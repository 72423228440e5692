/- The contract of the document's Act. -/
import Derived.Test.YthfoffiebifpcaaRef2
import Derived.Test.YthfoffiebifpcaaTurns
namespace Go.Proofs.Ythfoffiebifpcaa
open Go.RowKit

theorem rread_no (n c : Int) (w : World) (hc0 : 0 ≤ c) (hc1 : c < 256) (h : n < 1 ∨ 3 < n) :
    Calls Try.prog 18 #[.int .i64 n, .int .u8 c] w fun e w' => e = .returned (.tuple #[.int .u64 0, .int .i64 210]) ∧ w = w' := by
  have P := Lib.hid (fun w => part_no n w h)
  clear h
  go_enter Try.func18, Try.ntmps18
  go_wp2_with fail
  refine (P.out _).mono ?_
  rintro e w' ⟨rfl, rfl⟩
  go_wp2
  go_ret2
  exact ⟨rfl, rfl⟩
theorem rwrite_no (n c x : Int) (w : World) (hc0 : 0 ≤ c) (hc1 : c < 256) (h : n < 1 ∨ 3 < n) :
    Calls Try.prog 19 #[.int .i64 n, .int .u8 c, .int .u64 x] w fun e w' => e = .returned (.tuple #[.int .u8 0, .int .i64 210]) ∧ w = w' := by
  have P := Lib.hid (fun w => part_no n w h)
  clear h
  go_enter Try.func19, Try.ntmps19
  go_wp2_with fail
  refine (P.out _).mono ?_
  rintro e w' ⟨rfl, rfl⟩
  go_wp2
  go_ret2
  exact ⟨rfl, rfl⟩
theorem write_no (n c x : Int) (h : n < 1 ∨ 3 < n) : writeM n c x = (0, 210) := by
  unfold writeM; rw [if_neg (by omega), if_neg (by omega), if_neg (by omega)]
/-- The document's Read, any register. -/
theorem rread_any (n c : Int) (w : World) (hc0 : 0 ≤ c) (hc1 : c < 256) :
    Calls Try.prog 18 #[.int .i64 n, .int .u8 c] w fun e w' => e = .returned (.tuple #[.int .u64 (readM n c).1, .int .i64 (readM n c).2]) ∧ w = w' := by
  by_cases h : n < 1 ∨ 3 < n
  · rw [read_no n c h]; exact rread_no n c w hc0 hc1 h
  · rw [read_ok n c (by omega) (by omega)]; exact rread_ok n c w hc0 hc1 (by omega) (by omega)
theorem rwrite_any (n c x : Int) (w : World) (hc0 : 0 ≤ c) (hc1 : c < 256) (h0 : 0 ≤ x) (h1 : x < 18446744073709551616) :
    Calls Try.prog 19 #[.int .i64 n, .int .u8 c, .int .u64 x] w fun e w' => e = .returned (.tuple #[.int .u8 (writeM n c x).1, .int .i64 (writeM n c x).2]) ∧ w = w' := by
  by_cases h : n < 1 ∨ 3 < n
  · rw [write_no n c x h]; exact rwrite_no n c x w hc0 hc1 h
  · rw [write_ok n c x (by omega) (by omega)]; exact rwrite_ok n c x w hc0 hc1 h0 h1 (by omega) (by omega)

/-- What a how makes of the old bits and the new ones. -/
def nextM (how x old : Int) : Int := if how = 0 then x else if how = 1 then orM x old else dropM old x
theorem nextM_bd (how x old : Int) (h0 : 0 ≤ x) (h1 : x < 18446744073709551616) (o1 : old < 256) : 0 ≤ nextM how x old ∧ nextM how x old < 18446744073709551616 := by
  unfold nextM; split
  · exact ⟨h0, h1⟩
  · split
    · exact orM_bd x old h0 h1 (by omega)
    · exact dropM_bd old x (by omega)
theorem next_bit (how x old : Int) (k : Nat) (h0 : 0 ≤ x) (h1 : x < 18446744073709551616) (o0 : 0 ≤ old) (hk : k < 64) :
    bitB (nextM how x old) k = if how = 0 then bitB x k else if how = 1 then (bitB x k || bitB old k) else (bitB old k && !bitB x k) := by
  obtain ⟨a, rfl⟩ := Int.eq_ofNat_of_zero_le h0
  obtain ⟨b, rfl⟩ := Int.eq_ofNat_of_zero_le o0
  unfold nextM
  split
  · rfl
  · split
    · simp only [orM, Int.toNat_natCast, bitB_nat, Nat.testBit_or]
    · simp only [dropM, Int.toNat_natCast, bitB_nat, Nat.testBit_and]
      rw [show 18446744073709551615 - a = 2 ^ 64 - (a + 1) by omega, Nat.testBit_two_pow_sub_succ (show a < 2 ^ 64 by omega)]
      simp [hk]

def Fits (a p : Int) : Prop := a + p < 18446744073709551616
set_option maxHeartbeats 3200000 in
set_option maxRecDepth 100000 in
theorem ract_loop0 (n c x old X : Int) (s : Bool) (w : World) (hc0 : 0 ≤ c) (hc1 : c < 256) (h0 : 0 ≤ x) (h1 : x < 18446744073709551616) (n1 : 1 ≤ n) (n3 : n ≤ 3) (o0 : 0 ≤ old) (o1 : old < 256)
    (R : Hid ((readM n c).1 = old)) (X0 : 0 ≤ X) (X1 : X < 18446744073709551616) (P64 : Hid (∀ k : Nat, k < 64 → Fits (lowB X k) (2 ^ k) ∨ bitB X k = false))
    (HB : Hid (∀ k : Nat, k < 64 → bitB X k = bitB x k)) (HE : Hid (lowB X 64 = X)) :
    Calls Try.prog 21 #[.int .u8 0, .int .i64 n, .int .u8 c, .int .u64 x, .bool s] w fun e w' =>
      e = .returned (.tuple #[.int .u64 old, .int .u8 (writeM n c X).1, .bool true, .int .i64 0]) ∧ w = w' := by
  have O := Lib.hid (fun w => rread_ok n c w hc0 hc1 n1 n3)
  go_enter Try.func21, Try.ntmps21
  go_wp2_with fail
  refine (O.out _).mono ?_
  rw [R.out]
  rintro e w' ⟨rfl, rfl⟩
  go_wp2_with fail
  go_loop [16, 17] (fun v i => ∃ k : Nat, k ≤ 64 ∧ i = .int .i64 k ∧ v = .int .u64 (lowB X k)) (fun _ i => 64 - (intOf i).toNat)
  case atStart => exact ⟨0, by omega, rfl, by simp [lowB, Nat.mod_one]⟩
  case round =>
    obtain ⟨k, hk, rfl, rfl⟩ := hrel
    have s0 := (lowB_lt X k).1
    by_cases hlt : k < 64
    · have hb := HB.out k hlt
      cases hx : bitB x k
      ·
        ·
          rw [hx] at hb
          have N := Lib.hid (lowB_no X k X0 hb)
          clear hb
          go_wp2_with fail
          refine (bit_any _ _ _ h0 h1 (by omega) (by omega)).mono ?_
          rintro e w' ⟨rfl, rfl⟩
          go_wp2_with fail
          go_round
          case rel => exact ⟨k + 1, by omega, by go_num, by rw [N.out]⟩
          case measure => simp [intOf]; omega
      ·
        ·
          rw [hx] at hb
          have N := Lib.hid (lowB_yes X k X0 hb)
          clear hb
          go_wp2_with fail
          refine (bit_any _ _ _ h0 h1 (by omega) (by omega)).mono ?_
          rintro e w' ⟨rfl, rfl⟩
          go_wp2_with fail
          go_round
          case rel => exact ⟨k + 1, by omega, by go_num, by rw [N.out]; exact congrArg (Value.int .u64) (sum64w _ _ s0 (Int.le_of_lt (Int.pow_pos (by decide))) ((P64.out k (by omega)).resolve_right (by rw [HB.out k (by omega)]; simp [hx])))⟩
          case measure => simp [intOf]; omega
    · have : k = 64 := by omega
      subst this
      rw [HE.out]
      go_wp2_with fail
      refine (rwrite_ok n c X _ hc0 hc1 X0 X1 n1 n3).mono ?_
      rintro e w' ⟨rfl, rfl⟩
      go_wp2
      refine bodyPost_ret (v := .tuple #[.int .u64 old, .int .u8 (writeM n c X).1, .bool true, .int .i64 0]) (by simp [results, Try.results21, go_sem]) rfl ?_
      exact ⟨rfl, rfl⟩
set_option maxHeartbeats 3200000 in
set_option maxRecDepth 100000 in
theorem ract_loop1 (n c x old X : Int) (w : World) (hc0 : 0 ≤ c) (hc1 : c < 256) (h0 : 0 ≤ x) (h1 : x < 18446744073709551616) (n1 : 1 ≤ n) (n3 : n ≤ 3) (o0 : 0 ≤ old) (o1 : old < 256)
    (R : Hid ((readM n c).1 = old)) (X0 : 0 ≤ X) (X1 : X < 18446744073709551616) (P64 : Hid (∀ k : Nat, k < 64 → Fits (lowB X k) (2 ^ k) ∨ bitB X k = false))
    (HB : Hid (∀ k : Nat, k < 64 → bitB X k = (bitB x k || bitB old k))) (HE : Hid (lowB X 64 = X)) :
    Calls Try.prog 21 #[.int .u8 1, .int .i64 n, .int .u8 c, .int .u64 x, .bool false] w fun e w' =>
      e = .returned (.tuple #[.int .u64 old, .int .u8 (writeM n c X).1, .bool true, .int .i64 0]) ∧ w = w' := by
  have O := Lib.hid (fun w => rread_ok n c w hc0 hc1 n1 n3)
  go_enter Try.func21, Try.ntmps21
  go_wp2_with fail
  refine (O.out _).mono ?_
  rw [R.out]
  rintro e w' ⟨rfl, rfl⟩
  go_wp2_with fail
  go_loop [16, 17] (fun v i => ∃ k : Nat, k ≤ 64 ∧ i = .int .i64 k ∧ v = .int .u64 (lowB X k)) (fun _ i => 64 - (intOf i).toNat)
  case atStart => exact ⟨0, by omega, rfl, by simp [lowB, Nat.mod_one]⟩
  case round =>
    obtain ⟨k, hk, rfl, rfl⟩ := hrel
    have s0 := (lowB_lt X k).1
    by_cases hlt : k < 64
    · have hb := HB.out k hlt
      cases hx : bitB x k
      ·
        cases ho : bitB old k
        ·
          rw [hx, ho] at hb
          simp only [Bool.or_false, Bool.or_true, Bool.true_or, Bool.false_or, Bool.not_true, Bool.not_false, Bool.and_true, Bool.and_false, Bool.true_and, Bool.false_and, Bool.or_self, Bool.and_self] at hb
          have N := Lib.hid (lowB_no X k X0 hb)
          clear hb
          go_wp2_with fail
          refine (bit_any _ _ _ h0 h1 (by omega) (by omega)).mono ?_
          rintro e w' ⟨rfl, rfl⟩
          go_wp2_with fail
          refine (bit_any _ _ _ o0 (by omega) (by omega) (by omega)).mono ?_
          rintro e w' ⟨rfl, rfl⟩
          go_wp2_with fail
          go_round
          case rel => exact ⟨k + 1, by omega, by go_num, by rw [N.out]⟩
          case measure => simp [intOf]; omega
        ·
          rw [hx, ho] at hb
          simp only [Bool.or_false, Bool.or_true, Bool.true_or, Bool.false_or, Bool.not_true, Bool.not_false, Bool.and_true, Bool.and_false, Bool.true_and, Bool.false_and, Bool.or_self, Bool.and_self] at hb
          have N := Lib.hid (lowB_yes X k X0 hb)
          clear hb
          go_wp2_with fail
          refine (bit_any _ _ _ h0 h1 (by omega) (by omega)).mono ?_
          rintro e w' ⟨rfl, rfl⟩
          go_wp2_with fail
          refine (bit_any _ _ _ o0 (by omega) (by omega) (by omega)).mono ?_
          rintro e w' ⟨rfl, rfl⟩
          go_wp2_with fail
          go_round
          case rel => exact ⟨k + 1, by omega, by go_num, by rw [N.out]; exact congrArg (Value.int .u64) (sum64w _ _ s0 (Int.le_of_lt (Int.pow_pos (by decide))) ((P64.out k (by omega)).resolve_right (by rw [HB.out k (by omega)]; simp [hx, ho])))⟩
          case measure => simp [intOf]; omega
      ·
        cases ho : bitB old k
        ·
          rw [hx, ho] at hb
          simp only [Bool.or_false, Bool.or_true, Bool.true_or, Bool.false_or, Bool.not_true, Bool.not_false, Bool.and_true, Bool.and_false, Bool.true_and, Bool.false_and, Bool.or_self, Bool.and_self] at hb
          have N := Lib.hid (lowB_yes X k X0 hb)
          clear hb
          go_wp2_with fail
          refine (bit_any _ _ _ h0 h1 (by omega) (by omega)).mono ?_
          rintro e w' ⟨rfl, rfl⟩
          go_wp2_with fail
          go_round
          case rel => exact ⟨k + 1, by omega, by go_num, by rw [N.out]; exact congrArg (Value.int .u64) (sum64w _ _ s0 (Int.le_of_lt (Int.pow_pos (by decide))) ((P64.out k (by omega)).resolve_right (by rw [HB.out k (by omega)]; simp [hx, ho])))⟩
          case measure => simp [intOf]; omega
        ·
          rw [hx, ho] at hb
          simp only [Bool.or_false, Bool.or_true, Bool.true_or, Bool.false_or, Bool.not_true, Bool.not_false, Bool.and_true, Bool.and_false, Bool.true_and, Bool.false_and, Bool.or_self, Bool.and_self] at hb
          have N := Lib.hid (lowB_yes X k X0 hb)
          clear hb
          go_wp2_with fail
          refine (bit_any _ _ _ h0 h1 (by omega) (by omega)).mono ?_
          rintro e w' ⟨rfl, rfl⟩
          go_wp2_with fail
          go_round
          case rel => exact ⟨k + 1, by omega, by go_num, by rw [N.out]; exact congrArg (Value.int .u64) (sum64w _ _ s0 (Int.le_of_lt (Int.pow_pos (by decide))) ((P64.out k (by omega)).resolve_right (by rw [HB.out k (by omega)]; simp [hx, ho])))⟩
          case measure => simp [intOf]; omega
    · have : k = 64 := by omega
      subst this
      rw [HE.out]
      go_wp2_with fail
      refine (rwrite_ok n c X _ hc0 hc1 X0 X1 n1 n3).mono ?_
      rintro e w' ⟨rfl, rfl⟩
      go_wp2
      refine bodyPost_ret (v := .tuple #[.int .u64 old, .int .u8 (writeM n c X).1, .bool true, .int .i64 0]) (by simp [results, Try.results21, go_sem]) rfl ?_
      exact ⟨rfl, rfl⟩
set_option maxHeartbeats 3200000 in
set_option maxRecDepth 100000 in
theorem ract_loop2 (n c x old X : Int) (w : World) (hc0 : 0 ≤ c) (hc1 : c < 256) (h0 : 0 ≤ x) (h1 : x < 18446744073709551616) (n1 : 1 ≤ n) (n3 : n ≤ 3) (o0 : 0 ≤ old) (o1 : old < 256)
    (R : Hid ((readM n c).1 = old)) (X0 : 0 ≤ X) (X1 : X < 18446744073709551616) (P64 : Hid (∀ k : Nat, k < 64 → Fits (lowB X k) (2 ^ k) ∨ bitB X k = false))
    (HB : Hid (∀ k : Nat, k < 64 → bitB X k = (bitB old k && !bitB x k))) (HE : Hid (lowB X 64 = X)) :
    Calls Try.prog 21 #[.int .u8 2, .int .i64 n, .int .u8 c, .int .u64 x, .bool false] w fun e w' =>
      e = .returned (.tuple #[.int .u64 old, .int .u8 (writeM n c X).1, .bool true, .int .i64 0]) ∧ w = w' := by
  have O := Lib.hid (fun w => rread_ok n c w hc0 hc1 n1 n3)
  go_enter Try.func21, Try.ntmps21
  go_wp2_with fail
  refine (O.out _).mono ?_
  rw [R.out]
  rintro e w' ⟨rfl, rfl⟩
  go_wp2_with fail
  go_loop [16, 17] (fun v i => ∃ k : Nat, k ≤ 64 ∧ i = .int .i64 k ∧ v = .int .u64 (lowB X k)) (fun _ i => 64 - (intOf i).toNat)
  case atStart => exact ⟨0, by omega, rfl, by simp [lowB, Nat.mod_one]⟩
  case round =>
    obtain ⟨k, hk, rfl, rfl⟩ := hrel
    have s0 := (lowB_lt X k).1
    by_cases hlt : k < 64
    · have hb := HB.out k hlt
      cases hx : bitB x k
      ·
        cases ho : bitB old k
        ·
          rw [hx, ho] at hb
          simp only [Bool.or_false, Bool.or_true, Bool.true_or, Bool.false_or, Bool.not_true, Bool.not_false, Bool.and_true, Bool.and_false, Bool.true_and, Bool.false_and, Bool.or_self, Bool.and_self] at hb
          have N := Lib.hid (lowB_no X k X0 hb)
          clear hb
          go_wp2_with fail
          refine (bit_any _ _ _ h0 h1 (by omega) (by omega)).mono ?_
          rintro e w' ⟨rfl, rfl⟩
          go_wp2_with fail
          refine (bit_any _ _ _ o0 (by omega) (by omega) (by omega)).mono ?_
          rintro e w' ⟨rfl, rfl⟩
          go_wp2_with fail
          go_round
          case rel => exact ⟨k + 1, by omega, by go_num, by rw [N.out]⟩
          case measure => simp [intOf]; omega
        ·
          rw [hx, ho] at hb
          simp only [Bool.or_false, Bool.or_true, Bool.true_or, Bool.false_or, Bool.not_true, Bool.not_false, Bool.and_true, Bool.and_false, Bool.true_and, Bool.false_and, Bool.or_self, Bool.and_self] at hb
          have N := Lib.hid (lowB_yes X k X0 hb)
          clear hb
          go_wp2_with fail
          refine (bit_any _ _ _ h0 h1 (by omega) (by omega)).mono ?_
          rintro e w' ⟨rfl, rfl⟩
          go_wp2_with fail
          refine (bit_any _ _ _ o0 (by omega) (by omega) (by omega)).mono ?_
          rintro e w' ⟨rfl, rfl⟩
          go_wp2_with fail
          go_round
          case rel => exact ⟨k + 1, by omega, by go_num, by rw [N.out]; exact congrArg (Value.int .u64) (sum64w _ _ s0 (Int.le_of_lt (Int.pow_pos (by decide))) ((P64.out k (by omega)).resolve_right (by rw [HB.out k (by omega)]; simp [hx, ho])))⟩
          case measure => simp [intOf]; omega
      ·
        cases ho : bitB old k
        ·
          rw [hx, ho] at hb
          simp only [Bool.or_false, Bool.or_true, Bool.true_or, Bool.false_or, Bool.not_true, Bool.not_false, Bool.and_true, Bool.and_false, Bool.true_and, Bool.false_and, Bool.or_self, Bool.and_self] at hb
          have N := Lib.hid (lowB_no X k X0 hb)
          clear hb
          go_wp2_with fail
          refine (bit_any _ _ _ h0 h1 (by omega) (by omega)).mono ?_
          rintro e w' ⟨rfl, rfl⟩
          go_wp2_with fail
          refine (bit_any _ _ _ o0 (by omega) (by omega) (by omega)).mono ?_
          rintro e w' ⟨rfl, rfl⟩
          go_wp2_with fail
          go_round
          case rel => exact ⟨k + 1, by omega, by go_num, by rw [N.out]⟩
          case measure => simp [intOf]; omega
        ·
          rw [hx, ho] at hb
          simp only [Bool.or_false, Bool.or_true, Bool.true_or, Bool.false_or, Bool.not_true, Bool.not_false, Bool.and_true, Bool.and_false, Bool.true_and, Bool.false_and, Bool.or_self, Bool.and_self] at hb
          have N := Lib.hid (lowB_no X k X0 hb)
          clear hb
          go_wp2_with fail
          refine (bit_any _ _ _ h0 h1 (by omega) (by omega)).mono ?_
          rintro e w' ⟨rfl, rfl⟩
          go_wp2_with fail
          refine (bit_any _ _ _ o0 (by omega) (by omega) (by omega)).mono ?_
          rintro e w' ⟨rfl, rfl⟩
          go_wp2_with fail
          go_round
          case rel => exact ⟨k + 1, by omega, by go_num, by rw [N.out]⟩
          case measure => simp [intOf]; omega
    · have : k = 64 := by omega
      subst this
      rw [HE.out]
      go_wp2_with fail
      refine (rwrite_ok n c X _ hc0 hc1 X0 X1 n1 n3).mono ?_
      rintro e w' ⟨rfl, rfl⟩
      go_wp2
      refine bodyPost_ret (v := .tuple #[.int .u64 old, .int .u8 (writeM n c X).1, .bool true, .int .i64 0]) (by simp [results, Try.results21, go_sem]) rfl ?_
      exact ⟨rfl, rfl⟩

theorem low_top (X : Int) (X0 : 0 ≤ X) (X1 : X < 18446744073709551616) (k : Nat) (hk : k < 64) : Fits (lowB X k) (2 ^ k) ∨ bitB X k = false := by
  cases h : bitB X k
  · exact .inr rfl
  · left
    unfold Fits
    rw [← lowB_yes X k X0 h]
    obtain ⟨X, rfl⟩ := Int.eq_ofNat_of_zero_le X0
    have := Nat.mod_le X (2 ^ (k + 1))
    simp only [lowB, Int.toNat_natCast]
    omega
set_option maxHeartbeats 800000 in
theorem ract_any (how n c x : Int) (silent : Bool) (w : World) (k0 : 0 ≤ how) (k1 : how < 256) (hc0 : 0 ≤ c) (hc1 : c < 256) (h0 : 0 ≤ x) (h1 : x < 18446744073709551616) :
    Calls Try.prog 21 #[.int .u8 how, .int .i64 n, .int .u8 c, .int .u64 x, .bool silent] w fun e w' =>
      e = .returned (.tuple #[.int .u64 (actM how n c x silent).1, .int .u8 (actM how n c x silent).2.1, .bool (actM how n c x silent).2.2.1, .int .i64 (actM how n c x silent).2.2.2]) ∧ w = w' := by
  by_cases a : 2 < how
  · have H := Lib.hid (show actM how n c x silent = (0, 0, false, 2) by simp [actM, a])
    go_enter Try.func21, Try.ntmps21
    go_wp2
    refine bodyPost_ret (v := .tuple #[.int .u64 0, .int .u8 0, .bool false, .int .i64 2]) (by simp [results, Try.results21, go_sem]) rfl ?_
    exact ⟨by rw [H.out], rfl⟩
  by_cases b : n < 1 ∨ 3 < n
  · have H := Lib.hid (show actM how n c x silent = (0, 0, false, 210) by simp [actM, a, b])
    have R := Lib.hid (fun w => rread_no n c w hc0 hc1 b)
    clear b
    go_enter Try.func21, Try.ntmps21
    go_wp2_with fail
    refine (R.out _).mono ?_
    rintro e w' ⟨rfl, rfl⟩
    go_wp2
    refine bodyPost_ret (v := .tuple #[.int .u64 0, .int .u8 0, .bool false, .int .i64 210]) (by simp [results, Try.results21, go_sem]) rfl ?_
    exact ⟨by rw [H.out], rfl⟩
  have b1 : 1 ≤ n := by omega
  have b3 : n ≤ 3 := by omega
  obtain ⟨o0, o1⟩ := read_bd n c hc0 hc1
  have hh : how = 0 ∨ how = 1 ∨ how = 2 := by omega
  have bd := nextM_bd how x (readM n c).1 h0 h1 o1
  have nb := fun k hk => next_bit how x (readM n c).1 k h0 h1 o0 hk
  rcases hh with rfl | hh
  · rw [swap_eq n c x silent b1 b3]
    exact ract_loop0 n c x _ x silent w hc0 hc1 h0 h1 b1 b3 o0 o1 rfl h0 h1 (low_top x h0 h1) (fun k hk => rfl) (lowB_all x 64 h0 h1)
  · cases silent
    · rcases hh with rfl | rfl
      · rw [set_eq n c x b1 b3]
        exact ract_loop1 n c x _ _ w hc0 hc1 h0 h1 b1 b3 o0 o1 rfl bd.1 bd.2 (low_top _ bd.1 bd.2) (fun k hk => nb k hk) (lowB_all _ 64 bd.1 bd.2)
      · rw [clear_eq n c x b1 b3]
        exact ract_loop2 n c x _ _ w hc0 hc1 h0 h1 b1 b3 o0 o1 rfl bd.1 bd.2 (low_top _ bd.1 bd.2) (fun k hk => nb k hk) (lowB_all _ 64 bd.1 bd.2)
    · have H := Lib.hid (show actM how n c x true = ((readM n c).1, c, false, 0) by
        rcases hh with rfl | rfl
        · simp [actM, b]
        · simp [actM, b])
      have hn : (how != 0) = true := by rcases hh with rfl | rfl <;> rfl
      have O := Lib.hid (fun w => rread_ok n c w hc0 hc1 b1 b3)
      clear hh bd nb b
      go_enter Try.func21, Try.ntmps21
      go_wp2_with fail
      refine (O.out _).mono ?_
      rintro e w' ⟨rfl, rfl⟩
      go_wp2
      refine bodyPost_ret (v := .tuple #[.int .u64 (readM n c).1, .int .u8 c, .bool false, .int .i64 0]) (by simp [results, Try.results21, go_sem]) rfl ?_
      exact ⟨by rw [H.out], rfl⟩
end Go.Proofs.Ythfoffiebifpcaa
