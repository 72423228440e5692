/- The contracts of the word package, on numbers. -/
import Derived.Test.YtjgonofkklpgaaaDoorRows
import Derived.Test.YtjgonofkklpgaaaDoorShelf
import Derived.Test.YtjgonofkklpgaaaDoorTz
import Derived.WalkKit
import Derived.WalkSpells
import Derived.WalkLawsBesides
import Derived.Handy
import Derived.Lib.Hide
import Derived.Laws.BitsAllLaws
namespace Go.Proofs.YtjgonofkklpgaaaDoor
open Go.RowKit

/-- The library's table stands in its variable. -/
def Tab (w : World) : Prop := TabAt (Tryd.lays29_ren.g 1) Lib.deBruijn64tab w
theorem Tab.lt {w : World} (h : Tab w) : Tryd.lays29_ren.g 1 < w.heap.size := World.block_lt_of_cell? w _ (h 0 (by decide))
theorem Tab.below {w w' : World} (h : Tab w) (hb : Below w.heap.size w w') : Tab w' := fun j hj => (hb.cell (p := ⟨_, j, none⟩) h.lt).trans (h j hj)

/-- A word's bound, closed to the walk. -/
def IsW (x : Int) : Prop := 0 ≤ x ∧ x < 18446744073709551616
theorem IsW.nat {x : Int} (h : IsW x) : ∃ n : Nat, x = n ∧ n < 18446744073709551616 := by
  obtain ⟨n, rfl⟩ := Int.eq_ofNat_of_zero_le h.1
  exact ⟨n, rfl, by have := h.2; omega⟩

theorem ret_ub {a a' : Int} {b b' : Bool} (h : a = a') (h' : b = b') : Ending.returned (.tuple #[.int .u64 a, .bool b]) = .returned (.tuple #[.int .u64 a', .bool b']) := by rw [h, h']
theorem ret_uu {a a' b b' : Int} (h : a = a') (h' : b = b') : Ending.returned (.tuple #[.int .u64 a, .int .u64 b]) = .returned (.tuple #[.int .u64 a', .int .u64 b']) := by rw [h, h']
theorem ret_int {k : IntKind} {a b : Int} (h : a = b) : Ending.returned (.int k a) = .returned (.int k b) := by rw [h]
theorem ret_bool {a b : Bool} (h : a = b) : Ending.returned (.bool a) = .returned (.bool b) := by rw [h]

def addW (x y : Int) (c : Bool) : Int := (x + y + cond c 1 0) % 18446744073709551616
def carW (x y : Int) (c : Bool) : Bool := decide (18446744073709551616 ≤ x + y + cond c 1 0)
def subW (x y : Int) (c : Bool) : Int := (x - y - cond c 1 0) % 18446744073709551616
def borW (x y : Int) (c : Bool) : Bool := decide (x < y + cond c 1 0)

theorem one_any (c : Bool) (w : World) : Calls Tryd.prog 160 #[.bool c] w fun e w' => e = .returned (.int .u64 (cond c 1 0)) ∧ w = w' := by
  cases c
  · go_enter Tryd.func160, Tryd.ntmps160
    go_wp2
    go_ret
    exact ⟨rfl, rfl⟩
  · go_enter Tryd.func160, Tryd.ntmps160
    go_wp2
    go_ret
    exact ⟨rfl, rfl⟩

theorem wordAdd_any (x y : Int) (c : Bool) (w : World) (hx : IsW x) (hy : IsW y) :
    Calls Tryd.prog 124 #[.int .u64 x, .int .u64 y, .bool c] w fun e w' => e = .returned (.tuple #[.int .u64 (addW x y c), .bool (carW x y c)]) ∧ w = w' := by
  cases c
  · by_cases h : IntKind.u64.wrap (x + y) < x
    · have hb : decide (IntKind.u64.wrap (x + y) < x) = true := decide_eq_true h
      go_enter Tryd.func124, Tryd.ntmps124
      go_wp2
      go_ret2
      refine ⟨ret_ub ?_ ?_, rfl⟩
      · simp only [IntKind.wrap_u64, addW, cond]; omega
      · obtain ⟨x0, x1⟩ := hx; obtain ⟨y0, y1⟩ := hy
        simp only [IntKind.wrap_u64] at h
        symm; simp only [carW, cond, decide_eq_true_eq]; omega
    · have hb : decide (IntKind.u64.wrap (x + y) < x) = false := decide_eq_false h
      go_enter Tryd.func124, Tryd.ntmps124
      go_wp2
      go_ret2
      refine ⟨ret_ub ?_ ?_, rfl⟩
      · simp only [IntKind.wrap_u64, addW, cond]; omega
      · obtain ⟨x0, x1⟩ := hx; obtain ⟨y0, y1⟩ := hy
        simp only [IntKind.wrap_u64] at h
        symm; simp only [carW, cond, decide_eq_false_iff_not]; omega
  · by_cases h : IntKind.u64.wrap (x + y) < x
    · have hb : decide (IntKind.u64.wrap (x + y) < x) = true := decide_eq_true h
      go_enter Tryd.func124, Tryd.ntmps124
      go_wp2
      go_ret2
      refine ⟨ret_ub ?_ ?_, rfl⟩
      · simp only [IntKind.wrap_u64, addW, cond]; omega
      · obtain ⟨x0, x1⟩ := hx; obtain ⟨y0, y1⟩ := hy
        simp only [IntKind.wrap_u64] at h
        symm; simp only [carW, cond, decide_eq_true_eq]; omega
    · have hb : decide (IntKind.u64.wrap (x + y) < x) = false := decide_eq_false h
      go_enter Tryd.func124, Tryd.ntmps124
      go_wp2
      go_ret2
      refine ⟨ret_ub ?_ ?_, rfl⟩
      · simp only [IntKind.wrap_u64, addW, cond]; omega
      · obtain ⟨x0, x1⟩ := hx; obtain ⟨y0, y1⟩ := hy
        simp only [IntKind.wrap_u64] at h ⊢
        rw [Bool.eq_iff_iff]; simp only [carW, cond, decide_eq_true_eq, beq_iff_eq]; omega

theorem wordSub_any (x y : Int) (c : Bool) (w : World) (hx : IsW x) (hy : IsW y) :
    Calls Tryd.prog 149 #[.int .u64 x, .int .u64 y, .bool c] w fun e w' => e = .returned (.tuple #[.int .u64 (subW x y c), .bool (borW x y c)]) ∧ w = w' := by
  have hs : IntKind.u64.wrap (IntKind.u64.wrap (x - y) - cond c 1 0) = subW x y c := by
    simp only [IntKind.wrap_u64, subW]; omega
  have HS := Lib.hid hs
  clear hs
  by_cases h : x < y
  · have hb : decide (x < y) = true := decide_eq_true h
    have HB := Lib.hid (show borW x y c = true by unfold borW; cases c <;> simp <;> omega)
    cases c <;>
    · go_enter Tryd.func149, Tryd.ntmps149
      go_wp2
      go_ret2
      exact ⟨ret_ub (by rw [← HS.out]; first | rfl | simp) (by rw [HB.out]), rfl⟩
  · have hb : decide (x < y) = false := decide_eq_false h
    by_cases e : x = y
    · have he : (x == y) = true := by simpa using e
      cases c
      · have HB := Lib.hid (show borW x y false = false by unfold borW; simp; omega)
        clear e
        go_enter Tryd.func149, Tryd.ntmps149
        go_wp2
        go_ret2
        exact ⟨ret_ub (by rw [← HS.out]; first | rfl | simp) (by rw [HB.out]), rfl⟩
      · have HB := Lib.hid (show borW x y true = true by unfold borW; simp; omega)
        clear e
        go_enter Tryd.func149, Tryd.ntmps149
        go_wp2
        go_ret2
        exact ⟨ret_ub (by rw [← HS.out]; first | rfl | simp) (by rw [HB.out]), rfl⟩
    · have he : (x == y) = false := by simpa using e
      have HB := Lib.hid (show borW x y c = false by unfold borW; cases c <;> simp <;> omega)
      clear e
      cases c <;>
      · go_enter Tryd.func149, Tryd.ntmps149
        go_wp2
        go_ret2
        exact ⟨ret_ub (by rw [← HS.out]; first | rfl | simp) (by rw [HB.out]), rfl⟩

def mulHi (x y : Int) : Int := ((x.toNat * y.toNat / 18446744073709551616 : Nat) : Int)
def mulLo (x y : Int) : Int := ((x.toNat * y.toNat % 18446744073709551616 : Nat) : Int)
theorem wordMul_any (x y : Int) (w : World) (hx : IsW x) (hy : IsW y) :
    Calls Tryd.prog 148 #[.int .u64 x, .int .u64 y] w fun e w' => e = .returned (.tuple #[.int .u64 (mulHi x y), .int .u64 (mulLo x y)]) ∧ w = w' := by
  obtain ⟨a, rfl, ha⟩ := hx.nat
  obtain ⟨b, rfl, hb⟩ := hy.nat
  have A := Lib.hid ha
  have B := Lib.hid hb
  clear ha hb hx hy
  go_enter Tryd.func148, Tryd.ntmps148
  go_wp2_with fail
  refine (Tryd.bits_Mul64 a b A.out B.out _).mono ?_
  rintro e w' ⟨rfl, rfl⟩
  go_wp2
  go_ret2
  exact ⟨rfl, rfl⟩

def lenW (x : Int) : Int := (Lib.bitLen x.toNat : Nat)
theorem wordLen_any (x : Int) (w : World) (hx : IsW x) :
    Calls Tryd.prog 152 #[.int .u64 x] w fun e w' => e = .returned (.int .i64 (lenW x)) ∧ w = w' := by
  go_enter Tryd.func152, Tryd.ntmps152
  go_wp2_with fail
  refine (Tryd.bits_Len64 x _ hx.1 (by have := hx.2; omega)).mono ?_
  rintro e w' ⟨rfl, rfl⟩
  go_wp2
  go_ret
  exact ⟨rfl, rfl⟩

def lowW (x : Int) : Int := (Lib.ctz 64 x.toNat : Nat)
theorem wordLow_any (x : Int) (w : World) (hx : IsW x) (hT : Tab w) :
    Calls Tryd.prog 178 #[.int .u64 x] w fun e w' => e = .returned (.int .i64 (lowW x)) ∧ w = w' := by
  obtain ⟨a, rfl, ha⟩ := hx.nat
  have A := Lib.hid ha
  have T := Lib.hid hT
  clear ha hx hT
  go_enter Tryd.func178, Tryd.ntmps178
  go_wp2_with fail
  refine (Tryd.bits_TrailingZeros64 a A.out _ (fun _ => T.out)).mono ?_
  rintro e w' ⟨rfl, rfl⟩
  go_wp2
  go_ret
  exact ⟨rfl, rfl⟩
end Go.Proofs.YtjgonofkklpgaaaDoor
