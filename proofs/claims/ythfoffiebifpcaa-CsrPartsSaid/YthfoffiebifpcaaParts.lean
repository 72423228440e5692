/- The walk of CsrParts. -/
import Derived.Test.YthfoffiebifpcaaTurns
namespace Go.Proofs.Ythfoffiebifpcaa
open Go.RowKit

theorem write_c (n c x : Int) (w : World) (n1 : 1 ≤ n) (n3 : n ≤ 3) (hc0 : 0 ≤ c) (hc1 : c < 256) (h0 : 0 ≤ x) (h1 : x < 18446744073709551616) (r : Int) (hr : (writeM n c x).1 = r) :
    Calls Try.prog 16 #[.int .i64 n, .int .u8 c, .int .u64 x] w fun e w' => e = .returned (.tuple #[.int .u8 r, .int .i64 0]) ∧ w = w' := by
  have h := write_any n c x w hc0 hc1 h0 h1
  rw [write_ok n c x n1 n3, hr] at h
  exact h
theorem read_c (n c : Int) (w : World) (n1 : 1 ≤ n) (n3 : n ≤ 3) (hc0 : 0 ≤ c) (hc1 : c < 256) (r : Int) (hr : (readM n c).1 = r) :
    Calls Try.prog 17 #[.int .i64 n, .int .u8 c] w fun e w' => e = .returned (.tuple #[.int .u64 r, .int .i64 0]) ∧ w = w' := by
  have h := read_any n c w hc0 hc1
  rw [read_ok n c n1 n3, hr] at h
  exact h
theorem accrue_c (c f : Int) (w : World) (hc0 : 0 ≤ c) (hc1 : c < 256) (f0 : 0 ≤ f) (f1 : f < 32) (r : Int) (hr : orM c f = r) :
    Calls Try.prog 12 #[.int .u8 c, .int .u8 f] w fun e w' => e = .returned (.tuple #[.int .u8 r, .int .i64 0]) ∧ w = w' := by
  have h := accrue_any c f w hc0 hc1 f0 (by omega)
  rw [show accrueM c f = (orM c f, 0) by unfold accrueM; rw [if_neg (by omega)], hr] at h
  exact h

theorem other_part (n c x : Int) (hc0 : 0 ≤ c) (hc1 : c < 256) (n1 : 1 ≤ n) (n3 : n < 3) : (readM (3 - n) (writeM n c x).1).1 = (readM (3 - n) c).1 := by
  have : n = 1 ∨ n = 2 := by omega
  rcases this with rfl | rfl <;> simp [readM, writeM] <;> omega

theorem or_nat (c f : Nat) (hc : c < 256) (hf : f < 32) : (c ||| f) / 32 = c / 32 ∧ (c ||| f) % 32 = (c % 32) ||| f := by
  constructor
  · apply Nat.eq_of_testBit_eq
    intro i
    rw [show 32 = 2 ^ 5 from rfl, Nat.testBit_div_two_pow, Nat.testBit_div_two_pow, Nat.testBit_or, Nat.testBit_lt_two_pow (x := f) (i := i + 5) (Nat.lt_of_lt_of_le (show f < 2 ^ 5 from hf) (Nat.pow_le_pow_right (by decide) (show 5 ≤ i + 5 by omega)))]
    simp
  · apply Nat.eq_of_testBit_eq
    intro i
    rw [show 32 = 2 ^ 5 from rfl]
    simp only [Nat.testBit_or, Nat.testBit_mod_two_pow]
    by_cases h : i < 5
    · simp [h]
    · simp [h]
      exact Nat.testBit_lt_two_pow (x := f) (i := i) (Nat.lt_of_lt_of_le (show f < 2 ^ 5 from hf) (Nat.pow_le_pow_right (by decide) (show 5 ≤ i by omega)))
theorem or_bd (c f : Int) (hc0 : 0 ≤ c) (hc1 : c < 256) (f0 : 0 ≤ f) (f1 : f < 32) : 0 ≤ orM c f ∧ orM c f < 256 := by
  have : c.toNat ||| f.toNat < 2 ^ 8 := Nat.or_lt_two_pow (by omega) (by omega)
  unfold orM; omega
theorem or_bd5 (c f : Int) (hc1 : c < 32) (f1 : f < 32) : 0 ≤ orM c f ∧ orM c f < 32 := by
  have : c.toNat ||| f.toNat < 2 ^ 5 := Nat.or_lt_two_pow (by omega) (by omega)
  unfold orM; omega
theorem or_hi (c f : Int) (hc0 : 0 ≤ c) (hc1 : c < 256) (f0 : 0 ≤ f) (f1 : f < 32) : orM c f / 32 = c / 32 := by
  have := (or_nat c.toNat f.toNat (by omega) (by omega)).1
  unfold orM; omega
theorem or_lo (c f : Int) (hc0 : 0 ≤ c) (hc1 : c < 256) (f0 : 0 ≤ f) (f1 : f < 32) : orM c f % 32 = orM (c % 32) f := by
  have := (or_nat c.toNat f.toNat (by omega) (by omega)).2
  have e : (c % 32).toNat = c.toNat % 32 := by omega
  unfold orM; rw [e]; omega
theorem or_or (a b c : Int) : orM (orM a b) c = orM a (orM b c) := by
  simp [orM, Nat.or_assoc]

set_option maxHeartbeats 6400000 in
set_option maxRecDepth 100000 in
theorem parts_walk (a0 a1 a2 a3 : Int) (a4 : Bool) (a5 a6 y : Int) (w : World) (hc0 : 0 ≤ a2) (hc1 : a2 < 256) (hx0 : 0 ≤ a3) (hx1 : a3 < 18446744073709551616) (hf0 : 0 ≤ a6) (hf1 : a6 < 256) (hy0 : 0 ≤ y) (hy1 : y < 18446744073709551616) :
    Calls Try.prog 4 #[.agg #[.int .u8 a0, .int .i64 a1, .int .u8 a2, .int .u64 a3, .bool a4, .int .u8 a5, .int .u8 a6], .int .u64 y] w fun e w' => e = .returned (.bool true) ∧ Below w.heap.size w w' := by
  have M := Lib.hid (show makeM (a2 / 32) (a2 % 32) = (a2, 0) by unfold makeM; rw [if_neg (by omega), if_neg (by omega)]; simp; omega)
  obtain ⟨o1, ho1⟩ : ∃ o, (writeM 1 a2 a3).1 = o := ⟨_, rfl⟩
  obtain ⟨z1, hz1⟩ : ∃ o, (writeM 1 a2 y).1 = o := ⟨_, rfl⟩
  have bd1 := write_bd 1 a2 a3 hc0 hc1
  rw [ho1] at bd1
  obtain ⟨bo1, bp1⟩ := bd1
  have T1 := Lib.hid (show (writeM 1 o1 y).1 = z1 by rw [← ho1, write_write 1 a2 a3 y hc0 hc1 (by decide) (by decide), hz1])
  have G1 := Lib.hid (show (readM 1 o1).1 = a3 % 32 by rw [← ho1, read_write 1 a2 a3 hc0 hc1 (by decide) (by decide)]; rfl)
  obtain ⟨s1, hs1⟩ : ∃ o, (readM 2 a2).1 = o := ⟨_, rfl⟩
  have U1 := Lib.hid (show (readM 2 o1).1 = s1 by rw [← ho1, ← hs1]; exact other_part 1 a2 a3 hc0 hc1 (by decide) (by decide))
  have S1 := Lib.hid hs1
  clear hs1
  have O1 := Lib.hid ho1
  have Z1 := Lib.hid hz1
  clear ho1 hz1
  obtain ⟨o2, ho2⟩ : ∃ o, (writeM 2 a2 a3).1 = o := ⟨_, rfl⟩
  obtain ⟨z2, hz2⟩ : ∃ o, (writeM 2 a2 y).1 = o := ⟨_, rfl⟩
  have bd2 := write_bd 2 a2 a3 hc0 hc1
  rw [ho2] at bd2
  obtain ⟨bo2, bp2⟩ := bd2
  have T2 := Lib.hid (show (writeM 2 o2 y).1 = z2 by rw [← ho2, write_write 2 a2 a3 y hc0 hc1 (by decide) (by decide), hz2])
  have G2 := Lib.hid (show (readM 2 o2).1 = a3 % 8 by rw [← ho2, read_write 2 a2 a3 hc0 hc1 (by decide) (by decide)]; rfl)
  obtain ⟨s2, hs2⟩ : ∃ o, (readM 1 a2).1 = o := ⟨_, rfl⟩
  have U2 := Lib.hid (show (readM 1 o2).1 = s2 by rw [← ho2, ← hs2]; exact other_part 2 a2 a3 hc0 hc1 (by decide) (by decide))
  have S2 := Lib.hid hs2
  clear hs2
  have O2 := Lib.hid ho2
  have Z2 := Lib.hid hz2
  clear ho2 hz2
  obtain ⟨o3, ho3⟩ : ∃ o, (writeM 3 a2 a3).1 = o := ⟨_, rfl⟩
  obtain ⟨z3, hz3⟩ : ∃ o, (writeM 3 a2 y).1 = o := ⟨_, rfl⟩
  have bd3 := write_bd 3 a2 a3 hc0 hc1
  rw [ho3] at bd3
  obtain ⟨bo3, bp3⟩ := bd3
  have T3 := Lib.hid (show (writeM 3 o3 y).1 = z3 by rw [← ho3, write_write 3 a2 a3 y hc0 hc1 (by decide) (by decide), hz3])
  have G3 := Lib.hid (show (readM 3 o3).1 = a3 % 256 by rw [← ho3, read_write 3 a2 a3 hc0 hc1 (by decide) (by decide)]; rfl)
  have O3 := Lib.hid ho3
  have Z3 := Lib.hid hz3
  clear ho3 hz3
  obtain ⟨f, hf, f0, f1⟩ : ∃ f, a6 % 32 = f ∧ 0 ≤ f ∧ f < 32 := ⟨_, rfl, by omega, by omega⟩
  obtain ⟨g, hg, g0, g1⟩ : ∃ g, y % 32 = g ∧ 0 ≤ g ∧ g < 32 := ⟨_, rfl, by omega, by omega⟩
  obtain ⟨p, hp⟩ : ∃ p, orM a2 f = p := ⟨_, rfl⟩
  have bp := or_bd a2 f hc0 hc1 f0 f1
  rw [hp] at bp
  obtain ⟨p0, p1⟩ := bp
  obtain ⟨fg, hfg⟩ : ∃ p, orM f g = p := ⟨_, rfl⟩
  have bfg := or_bd5 f g f1 g1
  rw [hfg] at bfg
  obtain ⟨fg0, fg1⟩ := bfg
  obtain ⟨q, hq⟩ : ∃ r, orM p g = r := ⟨_, rfl⟩
  have bq := or_bd p g p0 p1 g0 g1
  rw [hq] at bq
  obtain ⟨q0, q1⟩ := bq
  have hq2 : orM a2 fg = q := by rw [← hfg, ← or_or, hp, hq]
  have Hi := Lib.hid (show q / 32 = a2 / 32 by rw [← hq2]; exact or_hi a2 fg hc0 hc1 fg0 fg1)
  have B1 := Lib.hid (u8_or f g f0 (by omega) g0 (by omega))
  have B2 := Lib.hid (u8_or (a2 % 32) f (by omega) (by omega) f0 (by omega))
  obtain ⟨cf, hcf⟩ : ∃ p, orM (a2 % 32) f = p := ⟨_, rfl⟩
  have bcf := or_bd5 (a2 % 32) f (by omega) f1
  rw [hcf] at bcf
  obtain ⟨cf0, cf1⟩ := bcf
  have Lo := Lib.hid (show q % 32 = orM cf g by rw [← hq2, or_lo a2 fg hc0 hc1 fg0 fg1, ← hfg, ← or_or, hcf])
  have B3 := Lib.hid (show Go.bits .or .u8 cf g = q % 32 by rw [u8_or cf g cf0 (by omega) g0 (by omega)]; exact Lo.out.symm)
  have B1' := Lib.hid (show Go.bits .or .u8 f g = fg by rw [B1.out]; exact hfg)
  have B2' := Lib.hid (show Go.bits .or .u8 (a2 % 32) f = cf by rw [B2.out]; exact hcf)
  have P := Lib.hid hp
  have Q := Lib.hid hq
  have Q2 := Lib.hid hq2
  have F := Lib.hid hf
  have G := Lib.hid hg
  clear hp hq hq2 hf hg hfg hcf B1 B2
  go_enter Try.func4, Try.ntmps4
  go_wp2_with fail
  refine (parts_any a2 _ hc0 hc1).mono ?_
  rintro e w' ⟨rfl, rfl⟩
  go_wp2_with fail
  refine (make_any _ _ _ (by omega) (by omega) (by omega) (by omega)).mono ?_
  rw [M.out]
  rintro e w' ⟨rfl, rfl⟩
  go_wp2_with fail
  refine wp_loop_rounds 4 ?_
  rw [rounds_succ]
  go_wp2_with fail
  refine (write_c 1 a2 a3 _ (by decide) (by decide) hc0 hc1 hx0 hx1 _ O1.out).mono ?_
  rintro e w' ⟨rfl, rfl⟩
  go_wp2_with fail
  refine (write_c 1 o1 y _ (by decide) (by decide) bo1 bp1 hy0 hy1 _ T1.out).mono ?_
  rintro e w' ⟨rfl, rfl⟩
  go_wp2_with fail
  refine (write_c 1 a2 y _ (by decide) (by decide) hc0 hc1 hy0 hy1 _ Z1.out).mono ?_
  rintro e w' ⟨rfl, rfl⟩
  go_wp2_with fail
  refine (read_c 1 o1 _ (by decide) (by decide) bo1 bp1 _ G1.out).mono ?_
  rintro e w' ⟨rfl, rfl⟩
  go_wp2_with fail
  refine (read_c 2 a2 _ (by decide) (by decide) hc0 hc1 _ S1.out).mono ?_
  rintro e w' ⟨rfl, rfl⟩
  go_wp2_with fail
  refine (read_c 2 o1 _ (by decide) (by decide) bo1 bp1 _ U1.out).mono ?_
  rintro e w' ⟨rfl, rfl⟩
  go_wp2_with fail
  rw [rounds_succ]
  go_wp2_with fail
  refine (write_c 2 a2 a3 _ (by decide) (by decide) hc0 hc1 hx0 hx1 _ O2.out).mono ?_
  rintro e w' ⟨rfl, rfl⟩
  go_wp2_with fail
  refine (write_c 2 o2 y _ (by decide) (by decide) bo2 bp2 hy0 hy1 _ T2.out).mono ?_
  rintro e w' ⟨rfl, rfl⟩
  go_wp2_with fail
  refine (write_c 2 a2 y _ (by decide) (by decide) hc0 hc1 hy0 hy1 _ Z2.out).mono ?_
  rintro e w' ⟨rfl, rfl⟩
  go_wp2_with fail
  refine (read_c 2 o2 _ (by decide) (by decide) bo2 bp2 _ G2.out).mono ?_
  rintro e w' ⟨rfl, rfl⟩
  go_wp2_with fail
  refine (read_c 1 a2 _ (by decide) (by decide) hc0 hc1 _ S2.out).mono ?_
  rintro e w' ⟨rfl, rfl⟩
  go_wp2_with fail
  refine (read_c 1 o2 _ (by decide) (by decide) bo2 bp2 _ U2.out).mono ?_
  rintro e w' ⟨rfl, rfl⟩
  go_wp2_with fail
  rw [rounds_succ]
  go_wp2_with fail
  refine (write_c 3 a2 a3 _ (by decide) (by decide) hc0 hc1 hx0 hx1 _ O3.out).mono ?_
  rintro e w' ⟨rfl, rfl⟩
  go_wp2_with fail
  refine (write_c 3 o3 y _ (by decide) (by decide) bo3 bp3 hy0 hy1 _ T3.out).mono ?_
  rintro e w' ⟨rfl, rfl⟩
  go_wp2_with fail
  refine (write_c 3 a2 y _ (by decide) (by decide) hc0 hc1 hy0 hy1 _ Z3.out).mono ?_
  rintro e w' ⟨rfl, rfl⟩
  go_wp2_with fail
  refine (read_c 3 o3 _ (by decide) (by decide) bo3 bp3 _ G3.out).mono ?_
  rintro e w' ⟨rfl, rfl⟩
  go_wp2_with fail
  rw [rounds_succ]
  go_wp2_with fail
  rw [F.out]
  refine (accrue_c a2 f _ hc0 hc1 f0 f1 _ P.out).mono ?_
  rintro e w' ⟨rfl, rfl⟩
  go_wp2_with fail
  try rw [G.out]
  refine (accrue_c p g _ p0 p1 g0 g1 _ Q.out).mono ?_
  rintro e w' ⟨rfl, rfl⟩
  go_wp2_with fail
  rw [B1'.out]
  refine (accrue_c a2 fg _ hc0 hc1 fg0 fg1 _ Q2.out).mono ?_
  rintro e w' ⟨rfl, rfl⟩
  go_wp2_with fail
  refine (parts_any q _ q0 q1).mono ?_
  rw [Hi.out]
  rintro e w' ⟨rfl, rfl⟩
  have b2 := B2'.out
  have b3 := B3.out
  go_wp2_with fail
  refine (lives_true _).mono ?_
  rintro e w' ⟨rfl, hb⟩
  go_wp2
  go_ret
  exact ⟨rfl, (((((Below.refl _ _).alloc (Nat.le_refl _) _).alloc (by simp) _).alloc (by simp <;> omega) _).alloc (by simp <;> omega) _).trans (hb.mono (by simp <;> omega))⟩
end Go.Proofs.Ythfoffiebifpcaa
