/- The contracts of wide.Len, wide.Bit, wide.Of, wide.OfBits, wide.ToBits, wide.And, wide.Or. -/
import Derived.Test.YtjgonofkklpgaaaDoorWmath2
import Derived.Deep.RegionWith
import Derived.Deep.QuietTactic
import Derived.BigQuiet
import Derived.Outline
namespace Go.Proofs.YtjgonofkklpgaaaDoor
open Go.RowKit

theorem lt6 {a : Nat} (h : a < top6) : Hid (a < 2 ^ (64 * 6)) := by
  unfold top6 at h
  exact Lib.hid h
theorem limb_zero_iff (a i : Nat) : (limb a i != 0) = (limbN a i != 0) := by
  unfold limb; rw [Bool.eq_iff_iff]; simp

set_option maxHeartbeats 1600000 in
set_option maxRecDepth 100000 in
theorem wideLen_any (a : Nat) (w : World) (h : a < top6) :
    Calls Tryd.prog 101 #[W a] w fun e w' => e = .returned (.int .i64 (lenN a : Nat)) ∧ Below w.heap.size w w' := by
  have sa := limbs_size a
  have T := Lib.hid h
  clear h
  go_enter Tryd.func101, Tryd.ntmps101
  go_wp2_with fail
  go_loopw [3] (fun i wr => ∃ k : Nat, k ≤ 6 ∧ i = .int .i64 ((k : Int) - 1) ∧ Hid (a < 2 ^ (64 * k)) ∧ Blk 35 wr w.heap.size (limbs a) ∧ Below w.heap.size w wr) (fun i _ => (intOf i + 1).toNat)
  case atStart => exact ⟨6, by omega, rfl, lt6 T.out, Blk.new w _, (Below.refl _ _).alloc (Nat.le_refl _) _⟩
  case round =>
    obtain ⟨k, hk, rfl, ha, hb, hbel⟩ := hrel
    cases k with
    | zero =>
      have Z := Lib.hid (show (0 : Int) = (lenN a : Nat) by
        have : a = 0 := by have := ha.out; simp at this; exact this
        subst this; rfl)
      go_wp2_with fail
      go_ret
      exact ⟨ret_int Z.out, hbel⟩
    | succ j =>
      have cj := hb.cell j (limbs_get a j (by omega))
      rw [show ((j + 1 : Nat) : Int) - 1 = (j : Int) by omega]
      by_cases hz : limbN a j = 0
      · have t := top_zero a j ha.out hz
        have z : limb a j = 0 := by unfold limb; rw [hz]; rfl
        rw [z] at cj
        have HA := Lib.hid t
        clear t ha hz z
        go_wp2_with fail
        go_roundw
        case rel => exact ⟨j, by omega, rfl, HA, hb, hbel⟩
        case measure => simp [intOf]
      · have l := lenN_top a j ha.out hz
        have L := Lib.hid l
        have z : (limb a j != 0) = true := by rw [limb_zero_iff]; simpa using hz
        have b64 : (lenN (limbN a j) : Int) ≤ 64 := by
          have := (lenN_le (limbN a j) 64).2 (limbN_lt a j)
          omega
        have lw := lenW_limb a j
        have b0 : 0 ≤ lenW (limb a j) := by rw [lw]; omega
        have b1 : lenW (limb a j) ≤ 64 := by rw [lw]; exact b64
        have LW := Lib.hid lw
        clear l ha hz b64 lw
        go_wp2_with fail
        refine (wordLen_any _ _ (limb_w a j)).mono ?_
        rintro e w' ⟨rfl, rfl⟩
        go_wp2_with fail
        go_ret
        exact ⟨ret_int (by rw [LW.out, L.out]; omega), hbel⟩

theorem limbs_word (x : Nat) (h : x < 18446744073709551616) : limbs x = #[.int .u64 (x : Nat), .int .u64 0, .int .u64 0, .int .u64 0, .int .u64 0, .int .u64 0] := by
  have e0 : ∀ i, limb x i = if i = 0 then (x : Int) else 0 := by
    intro i
    have := limbN_put 0 x 0 i (pw_pos 0) h
    rw [Nat.zero_add, show x * 2 ^ (64 * 0) = x by simp] at this
    unfold limb
    rw [this]
    split
    · rfl
    · unfold limbN; rw [Nat.zero_div]; rfl
  unfold limbs
  simp only [e0]; rfl
theorem wideOf_any (x : Nat) (w : World) (h : x < 18446744073709551616) :
    Calls Tryd.prog 55 #[.int .u64 x] w fun e w' => e = .returned (W x) ∧ Below w.heap.size w w' := by
  have E := Lib.hid (limbs_word x h)
  clear h
  go_enter Tryd.func55, Tryd.ntmps55
  go_wp2
  refine bodyPost_ret (v := .agg #[.int .u64 (x : Nat), .int .u64 0, .int .u64 0, .int .u64 0, .int .u64 0, .int .u64 0]) (by simp [results, Tryd.results55, go_sem]) rfl ⟨by rw [W, E.out], (Below.refl _ _).alloc (Nat.le_refl _) _⟩

theorem limbs_bits (b : Nat) (h : b < 2 ^ (64 * 2)) : limbs b = #[.int .u64 (limb b 0), .int .u64 (limb b 1), .int .u64 0, .int .u64 0, .int .u64 0, .int .u64 0] := by
  have z : ∀ i, 2 ≤ i → limb b i = 0 := by
    intro i hi
    unfold limb limbN
    rw [Nat.div_eq_of_lt (Nat.lt_of_lt_of_le h (Nat.pow_le_pow_right (by decide) (by omega)))]; rfl
  unfold limbs
  rw [z 2 (by decide), z 3 (by decide), z 4 (by decide), z 5 (by decide)]
theorem wideOfBits_any (b : Nat) (w : World) (h : b < 2 ^ (64 * 2)) :
    Calls Tryd.prog 95 #[BV b] w fun e w' => e = .returned (W b) ∧ Below w.heap.size w w' := by
  have E := Lib.hid (limbs_bits b h)
  clear h
  go_enter Tryd.func95, Tryd.ntmps95
  go_wp2
  refine bodyPost_ret (v := .agg #[.int .u64 (limb b 0), .int .u64 (limb b 1), .int .u64 0, .int .u64 0, .int .u64 0, .int .u64 0]) (by simp [results, Tryd.results95, go_sem]) rfl ⟨by rw [W, E.out], ?_⟩
  exact ((Below.refl _ _).alloc (Nat.le_refl _) _).alloc (by simp) _

/-- Wide.ToBits of a number of 128 bits. -/
theorem wideToBits_any (b : Nat) (w : World) (h : b < 2 ^ (64 * 2)) :
    Calls Tryd.prog 142 #[W b] w fun e w' => e = .returned (.tuple #[BV b, .bool true]) ∧ Below w.heap.size w w' := by
  rw [W, limbs_bits b h]
  clear h
  have z : (Go.bits .or .u64 (Go.bits .or .u64 (Go.bits .or .u64 0 0) 0) 0 != 0) = false := by decide +kernel
  go_enter Tryd.func142, Tryd.ntmps142
  go_wp2
  refine bodyPost_ret (v := .tuple #[BV b, .bool true]) (by simp [results, Tryd.results142, go_sem]) rfl ⟨rfl, ?_⟩
  exact ((Below.refl _ _).alloc (Nat.le_refl _) _).alloc (by simp) _

theorem bit_limb (a i : Nat) : (Go.bits .and .u64 (limb a (i / 64) / 2 ^ (i % 64)) 1 == 1) = a.testBit i := by
  have q0 : limb a (i / 64) / 2 ^ (i % 64) = ((limbN a (i / 64) / 2 ^ (i % 64) : Nat) : Int) := by unfold limb; simp
  have q1 : limbN a (i / 64) / 2 ^ (i % 64) ≤ limbN a (i / 64) := Nat.div_le_self _ _
  have q2 := limbN_lt a (i / 64)
  rw [q0, show (1 : Int) = ((1 : Nat) : Int) from rfl, u64_and_nat _ _ (by omega) (by decide), nat_mask1, ← limb_bit, Nat.testBit_eq_decide_div_mod_eq]
  generalize limbN a (i / 64) / 2 ^ (i % 64) = z
  rw [Bool.eq_iff_iff]; simp; omega

set_option maxHeartbeats 800000 in
set_option maxRecDepth 100000 in
theorem wideBit_in (a i : Nat) (w : World) (h : i < 384) :
    Calls Tryd.prog 94 #[W a, .int .i64 i] w fun e w' => e = .returned (.bool (a.testBit i)) ∧ Below w.heap.size w w' := by
  have sa := limbs_size a
  have cj : ∀ w : World, Blk 35 (w.alloc (.cells (limbs a) 35)) w.heap.size (limbs a) := fun w => Blk.new w _
  have c := (cj w).cell (i / 64) (limbs_get a (i / 64) (by omega))
  have R := Lib.hid (bit_limb a i)
  obtain ⟨j, hj⟩ : ∃ j, i / 64 = j := ⟨_, rfl⟩
  obtain ⟨s, hs⟩ : ∃ s, i % 64 = s := ⟨_, rfl⟩
  rw [hj] at c R
  rw [hs] at R
  have hj' : (i : Int) / 64 = (j : Int) := by omega
  have hs' : (i : Int) % 64 = (s : Int) := by omega
  have j6 : j < 6 := by omega
  have s64 : s < 64 := by omega
  rw [← R.out]
  clear cj R
  go_enter Tryd.func94, Tryd.ntmps94
  go_wp2
  go_ret
  exact ⟨rfl, (Below.refl _ _).alloc (Nat.le_refl _) _⟩
theorem wideBit_out (a : Nat) (i : Int) (w : World) (h : i < 0 ∨ 384 ≤ i) :
    Calls Tryd.prog 94 #[W a, .int .i64 i] w fun e w' => e = .returned (.bool false) ∧ Below w.heap.size w w' := by
  have sa := limbs_size a
  rcases h with h | h
  · go_enter Tryd.func94, Tryd.ntmps94
    go_wp2
    go_ret
    exact ⟨rfl, (Below.refl _ _).alloc (Nat.le_refl _) _⟩
  · have h0 : 0 ≤ i := by omega
    go_enter Tryd.func94, Tryd.ntmps94
    go_wp2
    go_ret
    exact ⟨rfl, (Below.refl _ _).alloc (Nat.le_refl _) _⟩
/-- The bit at a place; none beyond the word's ends. -/
def bitI (a : Nat) (i : Int) : Bool := decide (0 ≤ i) && (decide (i < 384) && a.testBit i.toNat)
theorem wideBit_any (a : Nat) (i : Int) (w : World) :
    Calls Tryd.prog 94 #[W a, .int .i64 i] w fun e w' => e = .returned (.bool (bitI a i)) ∧ Below w.heap.size w w' := by
  by_cases h : i < 0 ∨ 384 ≤ i
  · rw [show bitI a i = false by unfold bitI; rcases h with h | h <;> simp <;> omega]
    exact wideBit_out a i w h
  · obtain ⟨n, rfl⟩ := Int.eq_ofNat_of_zero_le (show 0 ≤ i by omega)
    rw [show bitI a (n : Int) = a.testBit n by unfold bitI; simp; omega]
    exact wideBit_in a n w (by omega)
end Go.Proofs.YtjgonofkklpgaaaDoor
