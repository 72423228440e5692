/- The walk of CsrTurns. -/
import Derived.Test.YthfoffiebifpcaaAct
import Derived.Test.YthfoffiebifpcaaLives
import Derived.StillTailTactics
import Derived.Deep.QuietTactic
import Derived.BigQuiet
import Derived.Outline
namespace Go.Proofs.Ythfoffiebifpcaa
open Go.RowKit

theorem write_bd (n c x : Int) (hc0 : 0 ≤ c) (hc1 : c < 256) : 0 ≤ (writeM n c x).1 ∧ (writeM n c x).1 < 256 := by
  unfold writeM; split
  · constructor <;> simp <;> omega
  · split
    · constructor <;> simp <;> omega
    · split <;> constructor <;> simp <;> omega

theorem swap_eq (n c x : Int) (s : Bool) (h : 1 ≤ n) (h3 : n ≤ 3) : actM 0 n c x s = ((readM n c).1, (writeM n c x).1, true, 0) := by
  unfold actM; rw [if_neg (by decide), if_neg (by omega), if_pos rfl]
theorem set_eq (n c x : Int) (h : 1 ≤ n) (h3 : n ≤ 3) : actM 1 n c x false = ((readM n c).1, (writeM n c (orM x (readM n c).1)).1, true, 0) := by
  unfold actM; rw [if_neg (by decide), if_neg (by omega), if_neg (by decide), if_neg (by decide), if_pos rfl]
theorem clear_eq (n c x : Int) (h : 1 ≤ n) (h3 : n ≤ 3) : actM 2 n c x false = ((readM n c).1, (writeM n c (dropM (readM n c).1 x)).1, true, 0) := by
  unfold actM; rw [if_neg (by decide), if_neg (by omega), if_neg (by decide), if_neg (by decide), if_neg (by decide)]
theorem quiet_eq (n c x : Int) (h : 1 ≤ n) (h3 : n ≤ 3) : actM 2 n c x true = ((readM n c).1, c, false, 0) := by
  unfold actM; rw [if_neg (by decide), if_neg (by omega), if_neg (by decide), if_pos rfl]

/-- The width of a control register's part. -/
def many (n : Int) : Int := if n = 1 then 32 else if n = 2 then 8 else 256
theorem read_write (n c x : Int) (hc0 : 0 ≤ c) (hc1 : c < 256) (h : 1 ≤ n) (h3 : n ≤ 3) : (readM n (writeM n c x).1).1 = x % many n := by
  have : n = 1 ∨ n = 2 ∨ n = 3 := by omega
  rcases this with rfl | rfl | rfl <;> simp [readM, writeM, many] <;> omega
theorem write_write (n c x y : Int) (hc0 : 0 ≤ c) (hc1 : c < 256) (h : 1 ≤ n) (h3 : n ≤ 3) : (writeM n (writeM n c x).1 y).1 = (writeM n c y).1 := by
  have : n = 1 ∨ n = 2 ∨ n = 3 := by omega
  rcases this with rfl | rfl | rfl <;> simp [writeM] <;> omega
theorem write_read (n c : Int) (hc0 : 0 ≤ c) (hc1 : c < 256) (h : 1 ≤ n) (h3 : n ≤ 3) : (writeM n c (readM n c).1).1 = c := by
  have : n = 1 ∨ n = 2 ∨ n = 3 := by omega
  rcases this with rfl | rfl | rfl <;> simp [readM, writeM] <;> omega

theorem drop_nat (r x j : Nat) (hx : x < 18446744073709551616) : (r &&& (18446744073709551615 - x)) % 2 ^ j &&& x = 0 := by
  apply Nat.eq_of_testBit_eq
  intro i
  rw [show 18446744073709551615 - x = 2 ^ 64 - (x + 1) by omega]
  simp only [Nat.testBit_and, Nat.testBit_mod_two_pow, Nat.testBit_two_pow_sub_succ (show x < 2 ^ 64 from hx), Nat.zero_testBit]
  cases x.testBit i <;> simp
theorem drop_left (n r x : Int) (hr0 : 0 ≤ r) (hx0 : 0 ≤ x) (hx1 : x < 18446744073709551616) : Go.bits .and .u64 (dropM r x % many n) x = 0 := by
  obtain ⟨a, rfl⟩ := Int.eq_ofNat_of_zero_le hr0
  obtain ⟨b, rfl⟩ := Int.eq_ofNat_of_zero_le hx0
  have hm : many n = 2 ^ 5 ∨ many n = 2 ^ 3 ∨ many n = 2 ^ 8 := by
    unfold many; split
    · exact .inl rfl
    · split
      · exact .inr (.inl rfl)
      · exact .inr (.inr rfl)
  have key : ∀ j : Nat, j ≤ 8 → Go.bits .and .u64 (dropM (a : Int) (b : Int) % 2 ^ j) (b : Int) = 0 := by
    intro j hj
    have e : dropM (a : Int) (b : Int) % 2 ^ j = (((a &&& (18446744073709551615 - b)) % 2 ^ j : Nat) : Int) := by
      simp [dropM]
    have hlt : (a &&& (18446744073709551615 - b)) % 2 ^ j < 18446744073709551616 := Nat.lt_of_lt_of_le (Nat.mod_lt _ (Nat.two_pow_pos j)) (Nat.le_trans (Nat.pow_le_pow_right (by decide) hj) (by decide))
    rw [e, u64_and_nat _ _ hlt (by omega), drop_nat a b j (by omega)]
    rfl
  rcases hm with h | h | h <;> rw [h]
  · exact key 5 (by decide)
  · exact key 3 (by decide)
  · exact key 8 (by decide)

theorem third (a : Int) : ∃ n, wrap64 (1 + (wrap64 (a.tmod 3 + 3)).tmod 3) = n ∧ 1 ≤ n ∧ n ≤ 3 := by
  refine ⟨_, rfl, ?_⟩
  have h1 := Int.tmod_lt_of_pos a (b := 3) (by decide)
  have h2 := Int.lt_tmod_of_pos a (b := 3) (by decide)
  have e : wrap64 (a.tmod 3 + 3) = a.tmod 3 + 3 := by unfold wrap64; omega
  rw [e, Int.tmod_eq_emod_of_nonneg (by omega)]
  unfold wrap64; omega

set_option maxHeartbeats 1600000 in
set_option maxRecDepth 100000 in
theorem turns_walk (a0 a1 a2 a3 : Int) (a4 : Bool) (a5 a6 : Int) (w : World) (h0 : 0 ≤ a0) (h1 : a0 < 256) (hn0 : -9223372036854775808 ≤ a1) (hn1 : a1 < 9223372036854775808) (hc0 : 0 ≤ a2) (hc1 : a2 < 256) (hx0 : 0 ≤ a3) (hx1 : a3 < 18446744073709551616) :
    Calls Try.prog 6 #[.agg #[.int .u8 a0, .int .i64 a1, .int .u8 a2, .int .u64 a3, .bool a4, .int .u8 a5, .int .u8 a6]] w fun e w' => e = .returned (.bool true) ∧ Below w.heap.size w w' := by
  obtain ⟨n, hn, n1, n3⟩ := third a1
  have N := Lib.hid hn
  clear hn
  have S1 := Lib.hid (swap_eq n a2 a3 a4 n1 n3)
  have b1 := write_bd n a2 a3 hc0 hc1
  have r1 := read_bd n a2 hc0 hc1
  have S2 := Lib.hid (swap_eq n (writeM n a2 a3).1 (readM n a2).1 a4 n1 n3)
  have S3 := Lib.hid (set_eq n a2 a3 n1 n3)
  have q := orM_bd a3 (readM n a2).1 hx0 hx1 (by omega)
  have b2 := write_bd n a2 (orM a3 (readM n a2).1) hc0 hc1
  obtain ⟨a, ha⟩ : ∃ a, (writeM n a2 (orM a3 (readM n a2).1)).1 = a := ⟨_, rfl⟩
  rw [ha] at b2
  have A := Lib.hid ha
  clear ha
  have r2 := read_bd n a b2.1 b2.2
  have S4 := Lib.hid (clear_eq n a a3 n1 n3)
  obtain ⟨d, hd⟩ : ∃ d, dropM (readM n a).1 a3 = d := ⟨_, rfl⟩
  have q2 := dropM_bd (readM n a).1 a3 (by omega)
  have L := Lib.hid (show Go.bits .and .u64 (d % many n) a3 = 0 by rw [← hd]; exact drop_left n _ a3 r2.1 hx0 hx1)
  rw [hd] at q2
  have D := Lib.hid hd
  clear hd
  have b3 := write_bd n a d b2.1 b2.2
  have R5 := Lib.hid (read_write n a d b2.1 b2.2 n1 n3)
  have B2 := Lib.hid ((write_write n a2 a3 (readM n a2).1 hc0 hc1 n1 n3).trans (write_read n a2 hc0 hc1 n1 n3))
  have S6 := Lib.hid (quiet_eq n a2 a3 n1 n3)
  have R5' := Lib.hid (read_ok n (writeM n a d).1 n1 n3)
  obtain ⟨b10, b11⟩ := b1
  obtain ⟨r10, r11⟩ := r1
  obtain ⟨b20, b21⟩ := b2
  obtain ⟨b30, b31⟩ := b3
  clear q q2 r2
  go_enter Try.func6, Try.ntmps6
  go_wp2_with fail
  rw [N.out]
  refine (act_any 0 n a2 a3 a4 _ (by decide) (by decide) hc0 hc1 hx0 hx1).mono ?_
  rw [S1.out]
  rintro e w' ⟨rfl, rfl⟩
  go_wp2_with fail
  refine (act_any 0 n _ _ a4 _ (by decide) (by decide) b10 b11 r10 (by omega)).mono ?_
  rw [S2.out]
  rintro e w' ⟨rfl, rfl⟩
  go_wp2_with fail
  refine (act_any 1 n a2 a3 false _ (by decide) (by decide) hc0 hc1 hx0 hx1).mono ?_
  rw [S3.out, A.out]
  rintro e w' ⟨rfl, rfl⟩
  go_wp2_with fail
  refine (act_any 2 n a a3 false _ (by decide) (by decide) b20 b21 hx0 hx1).mono ?_
  rw [S4.out, D.out]
  rintro e w' ⟨rfl, rfl⟩
  go_wp2_with fail
  refine (read_any n _ _ b30 b31).mono ?_
  rw [R5.out, R5'.out]
  rintro e w' ⟨rfl, rfl⟩
  go_wp2_with fail
  refine (act_any 2 n a2 a3 true _ (by decide) (by decide) hc0 hc1 hx0 hx1).mono ?_
  rw [S6.out]
  rintro e w' ⟨rfl, rfl⟩
  rw [B2.out]
  have LL := L.out
  go_wp2_with fail
  refine (lives_true _).mono ?_
  rintro e w' ⟨rfl, hb⟩
  go_wp2
  go_ret
  exact ⟨rfl, ((Below.refl _ _).alloc (Nat.le_refl _) _).trans (hb.mono (by simp))⟩
end Go.Proofs.Ythfoffiebifpcaa
