/- The contract of csr.Act, in plain arithmetic. -/
import Derived.Test.YthfoffiebifpcaaCsr
namespace Go.Proofs.Ythfoffiebifpcaa
open Go.RowKit

def dropM (a b : Int) : Int := ((a.toNat &&& (18446744073709551615 - b.toNat) : Nat) : Int)
def actM (how n c x : Int) (silent : Bool) : Int × Int × Bool × Int :=
  if 2 < how then (0, 0, false, 2) else if n < 1 ∨ 3 < n then (0, 0, false, 210)
  else if how = 0 then ((readM n c).1, (writeM n c x).1, true, 0)
  else if silent = true then ((readM n c).1, c, false, 0)
  else if how = 1 then ((readM n c).1, (writeM n c (orM x (readM n c).1)).1, true, 0)
  else ((readM n c).1, (writeM n c (dropM (readM n c).1 x)).1, true, 0)

theorem read_bd (n c : Int) (hc0 : 0 ≤ c) (hc1 : c < 256) : 0 ≤ (readM n c).1 ∧ (readM n c).1 < 256 := by
  unfold readM; split
  · constructor <;> simp <;> omega
  · split
    · constructor <;> simp <;> omega
    · split <;> constructor <;> simp <;> omega
theorem read_ok (n c : Int) (h : 1 ≤ n) (h3 : n ≤ 3) : (readM n c).2 = 0 := by
  have : n = 1 ∨ n = 2 ∨ n = 3 := by omega
  rcases this with rfl | rfl | rfl <;> rfl
theorem read_no (n c : Int) (h : n < 1 ∨ 3 < n) : readM n c = (0, 210) := by
  unfold readM; rw [if_neg (by omega), if_neg (by omega), if_neg (by omega)]
theorem write_ok (n c x : Int) (h : 1 ≤ n) (h3 : n ≤ 3) : (writeM n c x).2 = 0 := by
  have : n = 1 ∨ n = 2 ∨ n = 3 := by omega
  rcases this with rfl | rfl | rfl <;> rfl
theorem orM_bd (a b : Int) (ha : 0 ≤ a) (ha1 : a < 18446744073709551616) (hb : b < 18446744073709551616) : 0 ≤ orM a b ∧ orM a b < 18446744073709551616 := by
  have : a.toNat ||| b.toNat < 2 ^ 64 := Nat.or_lt_two_pow (by omega) (by omega)
  unfold orM; omega
theorem dropM_bd (a b : Int) (ha1 : a < 18446744073709551616) : 0 ≤ dropM a b ∧ dropM a b < 18446744073709551616 := by
  have h := @Nat.and_le_left a.toNat (18446744073709551615 - b.toNat)
  unfold dropM
  generalize a.toNat &&& (18446744073709551615 - b.toNat) = z at *
  omega

set_option maxHeartbeats 800000 in
theorem act_any (how n c x : Int) (silent : Bool) (w : World) (k0 : 0 ≤ how) (k1 : how < 256) (hc0 : 0 ≤ c) (hc1 : c < 256) (h0 : 0 ≤ x) (h1 : x < 18446744073709551616) :
    Calls Try.prog 20 #[.int .u8 how, .int .i64 n, .int .u8 c, .int .u64 x, .bool silent] w fun e w' =>
      e = .returned (.tuple #[.int .u64 (actM how n c x silent).1, .int .u8 (actM how n c x silent).2.1, .bool (actM how n c x silent).2.2.1, .int .i64 (actM how n c x silent).2.2.2]) ∧ w = w' := by
  by_cases a : 2 < how
  · have H := Lib.hid (show actM how n c x silent = (0, 0, false, 2) by simp [actM, a])
    go_enter Try.func20, Try.ntmps20
    go_wp2
    refine bodyPost_ret (v := .tuple #[.int .u64 0, .int .u8 0, .bool false, .int .i64 2]) (by simp [results, Try.results20, go_sem]) rfl ?_
    exact ⟨by rw [H.out], rfl⟩
  by_cases b : n < 1 ∨ 3 < n
  · have H := Lib.hid (show actM how n c x silent = (0, 0, false, 210) by simp [actM, a, b])
    have R := Lib.hid (read_no n c b)
    clear b
    go_enter Try.func20, Try.ntmps20
    go_wp2_with fail
    refine (read_any n c _ hc0 hc1).mono ?_
    rw [R.out]
    rintro e w' ⟨rfl, rfl⟩
    go_wp2
    refine bodyPost_ret (v := .tuple #[.int .u64 0, .int .u8 0, .bool false, .int .i64 210]) (by simp [results, Try.results20, go_sem]) rfl ?_
    exact ⟨by rw [H.out], rfl⟩
  have b1 : 1 ≤ n := by omega
  have b3 : n ≤ 3 := by omega
  have r2 : ((readM n c).2 != 0) = false := by rw [read_ok n c b1 b3]; rfl
  obtain ⟨o0, o1⟩ := read_bd n c hc0 hc1
  by_cases d : how = 0
  · subst d
    have H := Lib.hid (show actM 0 n c x silent = ((readM n c).1, (writeM n c x).1, true, (writeM n c x).2) by rw [write_ok n c x b1 b3]; simp [actM, b])
    clear b
    go_enter Try.func20, Try.ntmps20
    go_wp2_with fail
    refine (read_any n c _ hc0 hc1).mono ?_
    rintro e w' ⟨rfl, rfl⟩
    go_wp2_with fail
    refine (write_any n c x _ hc0 hc1 h0 h1).mono ?_
    rintro e w' ⟨rfl, rfl⟩
    go_wp2
    refine bodyPost_ret (v := .tuple #[.int .u64 (readM n c).1, .int .u8 (writeM n c x).1, .bool true, .int .i64 (writeM n c x).2]) (by simp [results, Try.results20, go_sem]) rfl ?_
    exact ⟨by rw [H.out], rfl⟩
  have d1 : (how == 0) = false := by simpa using d
  cases silent
  · by_cases f : how = 1
    · subst f
      have O := Lib.hid (u64_or x (readM n c).1 h0 h1 o0 (by omega))
      obtain ⟨q0, q1⟩ := orM_bd x (readM n c).1 h0 h1 (by omega)
      have H := Lib.hid (show actM 1 n c x false = ((readM n c).1, (writeM n c (orM x (readM n c).1)).1, true, (writeM n c (orM x (readM n c).1)).2) by rw [write_ok n c _ b1 b3]; simp [actM, b])
      clear b d d1
      go_enter Try.func20, Try.ntmps20
      go_wp2_with fail
      refine (read_any n c _ hc0 hc1).mono ?_
      rintro e w' ⟨rfl, rfl⟩
      go_wp2_with fail
      rw [O.out]
      refine (write_any n c (orM x (readM n c).1) _ hc0 hc1 q0 q1).mono ?_
      rintro e w' ⟨rfl, rfl⟩
      go_wp2
      refine bodyPost_ret (v := .tuple #[.int .u64 (readM n c).1, .int .u8 (writeM n c (orM x (readM n c).1)).1, .bool true, .int .i64 (writeM n c (orM x (readM n c).1)).2]) (by simp [results, Try.results20, go_sem]) rfl ?_
      exact ⟨by rw [H.out], rfl⟩
    · have f1 : (how == 1) = false := by simpa using f
      have O := Lib.hid (u64_andNot (readM n c).1 x o0 (by omega) h0 h1)
      obtain ⟨q0, q1⟩ := dropM_bd (readM n c).1 x (by omega)
      have H := Lib.hid (show actM how n c x false = ((readM n c).1, (writeM n c (dropM (readM n c).1 x)).1, true, (writeM n c (dropM (readM n c).1 x)).2) by rw [write_ok n c _ b1 b3]; simp [actM, b, a, d, f])
      clear b d f
      go_enter Try.func20, Try.ntmps20
      go_wp2_with fail
      refine (read_any n c _ hc0 hc1).mono ?_
      rintro e w' ⟨rfl, rfl⟩
      go_wp2_with fail
      rw [O.out]
      refine (write_any n c (dropM (readM n c).1 x) _ hc0 hc1 q0 q1).mono ?_
      rintro e w' ⟨rfl, rfl⟩
      go_wp2
      refine bodyPost_ret (v := .tuple #[.int .u64 (readM n c).1, .int .u8 (writeM n c (dropM (readM n c).1 x)).1, .bool true, .int .i64 (writeM n c (dropM (readM n c).1 x)).2]) (by simp [results, Try.results20, go_sem]) rfl ?_
      exact ⟨by rw [H.out], rfl⟩
  · have H := Lib.hid (show actM how n c x true = ((readM n c).1, c, false, 0) by simp [actM, b, a, d])
    clear b d
    go_enter Try.func20, Try.ntmps20
    go_wp2_with fail
    refine (read_any n c _ hc0 hc1).mono ?_
    rintro e w' ⟨rfl, rfl⟩
    go_wp2
    refine bodyPost_ret (v := .tuple #[.int .u64 (readM n c).1, .int .u8 c, .bool false, .int .i64 0]) (by simp [results, Try.results20, go_sem]) rfl ?_
    exact ⟨by rw [H.out], rfl⟩
end Go.Proofs.Ythfoffiebifpcaa
