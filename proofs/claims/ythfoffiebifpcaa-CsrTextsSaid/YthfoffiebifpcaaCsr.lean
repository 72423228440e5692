/- The contracts of the csr package's functions on numbers, in plain arithmetic. -/
import Derived.Test.YthfoffiebifpcaaRows
import Derived.WalkKit
import Derived.WalkSpells
import Derived.WalkLawsBesides
import Derived.Handy
import Derived.Lib.Hide
import Derived.Laws.BitsAllLaws
namespace Go.Proofs.Ythfoffiebifpcaa
open Go.RowKit

def modeM (c rm : Int) : Int × Int := if 7 < rm then (0, 2) else if rm = 7 then (if 4 < c / 32 then (0, 211) else (c / 32, 0)) else if 4 < rm then (0, 211) else (rm, 0)
def makeM (rm f : Int) : Int × Int := if 7 < rm then (0, 2) else if 31 < f then (0, 2) else (rm * 32 + f, 0)
def orM (a b : Int) : Int := ((a.toNat ||| b.toNat : Nat) : Int)
def accrueM (c f : Int) : Int × Int := if 31 < f then (0, 2) else (orM c f, 0)
def readM (n c : Int) : Int × Int := if n = 1 then (c % 32, 0) else if n = 2 then (c / 32, 0) else if n = 3 then (c, 0) else (0, 210)
def writeM (n c x : Int) : Int × Int := if n = 1 then (c / 32 * 32 + x % 32, 0) else if n = 2 then (c % 32 + x % 8 * 32, 0) else if n = 3 then (x % 256, 0) else (0, 210)

theorem mode_any (c rm : Int) (w : World) (hc0 : 0 ≤ c) (hc1 : c < 256) (h0 : 0 ≤ rm) (h1 : rm < 256) :
    Calls Try.prog 8 #[.int .u8 c, .int .u8 rm] w fun e w' => e = .returned (.tuple #[.int .u8 (modeM c rm).1, .int .i64 (modeM c rm).2]) ∧ w = w' := by
  by_cases a : 7 < rm
  · have H := Lib.hid (show modeM c rm = (0, 2) by simp [modeM, a])
    go_enter Try.func8, Try.ntmps8
    go_wp2
    go_ret2
    exact ⟨by rw [H.out]; rfl, rfl⟩
  by_cases b : rm = 7
  · subst b
    by_cases d : 4 < c / 32
    · have H := Lib.hid (show modeM c 7 = (0, 211) by simp [modeM, d])
      go_enter Try.func8, Try.ntmps8
      go_wp2
      go_ret2
      exact ⟨by rw [H.out]; rfl, rfl⟩
    · have H := Lib.hid (show modeM c 7 = (c / 32, 0) by simp [modeM, d])
      go_enter Try.func8, Try.ntmps8
      go_wp2
      go_ret2
      exact ⟨by rw [H.out]; rfl, rfl⟩
  have b1 : (rm == 7) = false := by simpa using b
  by_cases d : 4 < rm
  · have H := Lib.hid (show modeM c rm = (0, 211) by simp [modeM, a, b, d])
    clear b
    go_enter Try.func8, Try.ntmps8
    go_wp2
    go_ret2
    exact ⟨by rw [H.out]; rfl, rfl⟩
  · have H := Lib.hid (show modeM c rm = (rm, 0) by simp [modeM, a, b, d])
    clear b
    go_enter Try.func8, Try.ntmps8
    go_wp2
    go_ret2
    exact ⟨by rw [H.out]; rfl, rfl⟩

theorem make_bits (rm f : Int) (h0 : 0 ≤ rm) (h1 : rm ≤ 7) (f0 : 0 ≤ f) (f1 : f ≤ 31) : Go.bits .or .u8 (rm * 32) f = rm * 32 + f :=
  bits_join .u8 8 (by decide) wraps_u8 5 (rm * 32) f (by omega) (by omega) (by omega) f0 (by omega) (by omega)

theorem make_any (rm f : Int) (w : World) (h0 : 0 ≤ rm) (h1 : rm < 256) (f0 : 0 ≤ f) (f1 : f < 256) :
    Calls Try.prog 10 #[.int .u8 rm, .int .u8 f] w fun e w' => e = .returned (.tuple #[.int .u8 (makeM rm f).1, .int .i64 (makeM rm f).2]) ∧ w = w' := by
  by_cases a : 7 < rm
  · have H := Lib.hid (show makeM rm f = (0, 2) by simp [makeM, a])
    go_enter Try.func10, Try.ntmps10
    go_wp2
    go_ret2
    exact ⟨by rw [H.out]; rfl, rfl⟩
  by_cases b : 31 < f
  · have H := Lib.hid (show makeM rm f = (0, 2) by simp [makeM, a, b])
    go_enter Try.func10, Try.ntmps10
    go_wp2
    go_ret2
    exact ⟨by rw [H.out]; rfl, rfl⟩
  have e := make_bits rm f h0 (by omega) f0 (by omega)
  have H := Lib.hid (show makeM rm f = (rm * 32 + f, 0) by simp [makeM, a, b])
  have E := Lib.hid e
  clear e
  go_enter Try.func10, Try.ntmps10
  go_wp2
  go_ret2
  exact ⟨by rw [H.out, ← E.out]; rfl, rfl⟩

theorem accrue_any (c f : Int) (w : World) (hc0 : 0 ≤ c) (hc1 : c < 256) (f0 : 0 ≤ f) (f1 : f < 256) :
    Calls Try.prog 12 #[.int .u8 c, .int .u8 f] w fun e w' => e = .returned (.tuple #[.int .u8 (accrueM c f).1, .int .i64 (accrueM c f).2]) ∧ w = w' := by
  by_cases b : 31 < f
  · have H := Lib.hid (show accrueM c f = (0, 2) by simp [accrueM, b])
    go_enter Try.func12, Try.ntmps12
    go_wp2
    go_ret2
    exact ⟨by rw [H.out]; rfl, rfl⟩
  have H := Lib.hid (show accrueM c f = (orM c f, 0) by simp [accrueM, b])
  have E := Lib.hid (u8_or c f hc0 hc1 f0 f1)
  go_enter Try.func12, Try.ntmps12
  go_wp2
  go_ret2
  exact ⟨by rw [H.out, orM, ← E.out]; rfl, rfl⟩

theorem parts_any (c : Int) (w : World) (hc0 : 0 ≤ c) (hc1 : c < 256) :
    Calls Try.prog 14 #[.int .u8 c] w fun e w' => e = .returned (.tuple #[.int .u8 (c / 32), .int .u8 (c % 32)]) ∧ w = w' := by
  go_enter Try.func14, Try.ntmps14
  go_wp2
  go_ret2
  exact ⟨rfl, rfl⟩

theorem read_any (n c : Int) (w : World) (hc0 : 0 ≤ c) (hc1 : c < 256) :
    Calls Try.prog 17 #[.int .i64 n, .int .u8 c] w fun e w' => e = .returned (.tuple #[.int .u64 (readM n c).1, .int .i64 (readM n c).2]) ∧ w = w' := by
  by_cases a : n = 1
  · subst a
    go_enter Try.func17, Try.ntmps17
    go_wp2
    go_ret2
    exact ⟨rfl, rfl⟩
  by_cases b : n = 2
  · subst b
    go_enter Try.func17, Try.ntmps17
    go_wp2
    go_ret2
    exact ⟨rfl, rfl⟩
  by_cases d : n = 3
  · subst d
    go_enter Try.func17, Try.ntmps17
    go_wp2
    go_ret2
    exact ⟨rfl, rfl⟩
  have H := Lib.hid (show readM n c = (0, 210) by simp [readM, a, b, d])
  have a1 : (n == 1) = false := by simpa using a
  have b1 : (n == 2) = false := by simpa using b
  have d1 : (n == 3) = false := by simpa using d
  clear a b d
  go_enter Try.func17, Try.ntmps17
  go_wp2
  go_ret2
  exact ⟨by rw [H.out]; rfl, rfl⟩

theorem keep_hi (c : Int) (h0 : 0 ≤ c) (h1 : c < 256) : Go.bits .andNot .u8 c 31 = c / 32 * 32 := by
  rw [u8_andNot c 31 h0 h1 (by decide) (by decide)]
  obtain ⟨a, rfl⟩ := Int.eq_ofNat_of_zero_le h0
  have ha : a < 256 := by omega
  have : ∀ a : Nat, a < 256 → a &&& 224 = a / 32 * 32 := by decide +kernel
  have := this a ha
  simp only [Int.toNat_natCast, show (31 : Int).toNat = 31 from rfl, show 255 - 31 = 224 from rfl, this]
  simp

theorem write_any (n c x : Int) (w : World) (hc0 : 0 ≤ c) (hc1 : c < 256) (h0 : 0 ≤ x) (h1 : x < 18446744073709551616) :
    Calls Try.prog 16 #[.int .i64 n, .int .u8 c, .int .u64 x] w fun e w' => e = .returned (.tuple #[.int .u8 (writeM n c x).1, .int .i64 (writeM n c x).2]) ∧ w = w' := by
  by_cases a : n = 1
  · subst a
    have E := Lib.hid (show Go.bits .or .u8 (c / 32 * 32) (x % 32) = c / 32 * 32 + x % 32 from bits_join .u8 8 (by decide) wraps_u8 5 _ _ (by omega) (by omega) (by omega) (by omega) (by omega) (by omega))
    have K := Lib.hid (keep_hi c hc0 hc1)
    go_enter Try.func16, Try.ntmps16
    go_wp2
    go_ret2
    exact ⟨by rw [show writeM 1 c x = (c / 32 * 32 + x % 32, 0) from rfl, ← E.out, ← K.out]; rfl, rfl⟩
  by_cases b : n = 2
  · subst b
    have E := Lib.hid (show Go.bits .or .u8 (c % 32) (x % 8 * 32) = c % 32 + x % 8 * 32 by
      rw [u8_or _ _ (by omega) (by omega) (by omega) (by omega), Nat.or_comm, nat_join 5 _ _ (by omega) (by omega)]; omega)
    have X7 : Go.bits .and .u64 x 7 = x % 8 := by
      rw [u64_and x 7 h0 h1 (by decide) (by decide), show (7 : Int).toNat = 7 from rfl, nat_mask3]; omega
    go_enter Try.func16, Try.ntmps16
    go_wp2
    go_ret2
    exact ⟨by rw [show writeM 2 c x = (c % 32 + x % 8 * 32, 0) from rfl, ← E.out]; rfl, rfl⟩
  by_cases d : n = 3
  · subst d
    go_enter Try.func16, Try.ntmps16
    go_wp2
    go_ret2
    exact ⟨rfl, rfl⟩
  have H := Lib.hid (show writeM n c x = (0, 210) by simp [writeM, a, b, d])
  have a1 : (n == 1) = false := by simpa using a
  have b1 : (n == 2) = false := by simpa using b
  have d1 : (n == 3) = false := by simpa using d
  clear a b d
  go_enter Try.func16, Try.ntmps16
  go_wp2
  go_ret2
  exact ⟨by rw [H.out]; rfl, rfl⟩
end Go.Proofs.Ythfoffiebifpcaa
