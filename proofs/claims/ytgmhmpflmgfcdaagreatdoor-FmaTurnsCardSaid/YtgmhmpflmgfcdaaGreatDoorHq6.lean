/- Part 6 of the proof. -/
import Derived.Shelf.Strconv.Itoa0
import Derived.Shelf.Bits.Mul64
import Derived.Test.YtgmhmpflmgfcdaaGreatDoorProg
import Derived.Shelf.Spec.TrailingZeros
import Derived.Test.YtgmhmpflmgfcdaaGreatDoorRows
import Derived.WalkKit
import Derived.WalkSpells
import Derived.WalkLawsBesides
import Derived.Handy
import Derived.Lib.Hide
import Derived.Laws.BitsAllLaws
import Init
import Derived.Below
import Derived.OrdersHeld
import Derived.Deep.MidRow
import Derived.BigQuiet
import Derived.Deep.QuietTactic
import Derived.Lib.ItoaNum
import Derived.Outline
import Derived.ChangeKeysEq
import Derived.Deep.RegionWith
import Derived.RegionTactic
import Derived.Deep.RegionHeld3
import Derived.Deep.Cut
import Derived.Test.YtgmhmpflmgfcdaaGreatDoorHq5
set_option linter.unusedSimpArgs false
set_option linter.unusedVariables false
set_option linter.unnecessarySimpa false
set_option maxRecDepth 100000
set_option maxHeartbeats 3200000
namespace Go.Proofs
open Go.Shelf
def Tryz.lays129_ren : Go.Shelf.Ren := ⟨fun | 129 => 215 | n => n, fun | 53 => 25 | 3 => 3 | 4 => 4 | 46 => 98 | 5 => 5 | 9 => 9 | n => n, fun | n => n⟩
theorem Tryz.lays129 : Go.Proofs.Lays.n129 Tryz.prog Tryz.lays129_ren := {
 mixed := by kernel_rfl
 f129 := Tryz.func215.trans (congrArg some (by kernel_rfl))
 t3 := Tryz.underlying3
 a3 := Tryz.isAgg3
 z3 := Tryz.sizeOf3
 v3 := Tryz.zeroValue3
 t4 := Tryz.underlying4
 a4 := Tryz.isAgg4
 z4 := Tryz.sizeOf4
 v4 := Tryz.zeroValue4
 t5 := Tryz.underlying5
 a5 := Tryz.isAgg5
 z5 := Tryz.sizeOf5
 v5 := Tryz.zeroValue5
 t9 := Tryz.underlying9
 a9 := Tryz.isAgg9
 z9 := Tryz.sizeOf9
 v9 := Tryz.zeroValue9
 t46 := Tryz.underlying98
 a46 := Tryz.isAgg98
 z46 := Tryz.sizeOf98
 v46 := Tryz.zeroValue98
 t53 := Tryz.underlying25
 a53 := Tryz.isAgg25
 z53 := Tryz.sizeOf25
 v53 := Tryz.zeroValue25 }
theorem Tryz.bits_Len64 (x : Int) (w : World) (h0 : 0 ≤ x) (h1 : x ≤ 18446744073709551615) :
  Calls Tryz.prog 215 #[.int .u64 x] w fun e w' => e = .returned (.int .i64 (Lib.bitLen x.toNat)) ∧ w' = w := Any.bits_Len64 Tryz.lays129 x w h0 h1
def Tryz.lays264_ren : Go.Shelf.Ren := ⟨fun | 264 => 221 | n => n, fun | 53 => 25 | 46 => 98 | n => n, fun | n => n⟩
theorem Tryz.lays264 : Go.Proofs.Lays.n264 Tryz.prog Tryz.lays264_ren := {
 mixed := by kernel_rfl
 f264 := Tryz.func221.trans (congrArg some (by kernel_rfl))
 t46 := Tryz.underlying98
 a46 := Tryz.isAgg98
 z46 := Tryz.sizeOf98
 v46 := Tryz.zeroValue98
 t53 := Tryz.underlying25
 a53 := Tryz.isAgg25
 z53 := Tryz.sizeOf25
 v53 := Tryz.zeroValue25 }
open Go.RowKit Go.Lib in
theorem Tryz.bits_Mul64 (x y : Nat) (hx : x < 18446744073709551616) (hy : y < 18446744073709551616) (w : World) :
  Calls Tryz.prog 221 #[.int .u64 x, .int .u64 y] w fun e w' => e = .returned (.tuple #[.int .u64 ((x * y / 18446744073709551616 : Nat) : Int), .int .u64 ((x * y % 18446744073709551616 : Nat) : Int)]) ∧ w' = w := Any.bits_Mul64 Tryz.lays264 x y hx hy w
end Go.Proofs

namespace Go.Proofs
open Go.Shelf
def Tryz.lays29_ren : Go.Shelf.Ren := ⟨fun | 29 => 233 | n => n, fun | 22 => 25 | 3 => 3 | 4 => 4 | 25 => 98 | 54 => 208 | 0 => 0 | 5 => 5 | n => n, fun | 1 => 0 | n => n⟩
theorem Tryz.lays29 : Go.Proofs.Lays7.n29 Tryz.prog Tryz.lays29_ren := {
 mixed := by kernel_rfl
 f29 := Tryz.func233.trans (congrArg some (by kernel_rfl))
 t0 := Tryz.underlying0
 a0 := Tryz.isAgg0
 z0 := Tryz.sizeOf0
 v0 := Tryz.zeroValue0
 i0 := by kernel_rfl
 t3 := Tryz.underlying3
 a3 := Tryz.isAgg3
 z3 := Tryz.sizeOf3
 v3 := Tryz.zeroValue3
 i3 := by kernel_rfl
 t4 := Tryz.underlying4
 a4 := Tryz.isAgg4
 z4 := Tryz.sizeOf4
 v4 := Tryz.zeroValue4
 i4 := by kernel_rfl
 t5 := Tryz.underlying5
 a5 := Tryz.isAgg5
 z5 := Tryz.sizeOf5
 v5 := Tryz.zeroValue5
 i5 := by kernel_rfl
 t22 := Tryz.underlying25
 a22 := Tryz.isAgg25
 z22 := Tryz.sizeOf25
 v22 := Tryz.zeroValue25
 i22 := by kernel_rfl
 t25 := Tryz.underlying98
 a25 := Tryz.isAgg98
 z25 := Tryz.sizeOf98
 v25 := Tryz.zeroValue98
 i25 := by kernel_rfl
 t54 := Tryz.underlying208
 a54 := Tryz.isAgg208
 z54 := Tryz.sizeOf208
 g1 := by kernel_rfl }
open Go.RowKit in
/-- math/bits.TrailingZeros64. -/
theorem Tryz.bits_TrailingZeros64 (x : Nat) (hx : x < 18446744073709551616) (w : World) (hT : x ≠ 0 → TabAt (Tryz.lays29_ren.g 1) Lib.deBruijn64tab w) :
  Calls Tryz.prog 233 #[.int .u64 x] w fun e w' => e = .returned (.int .i64 (Lib.ctz 64 x)) ∧ w' = w := Any7.bits_TrailingZeros64 Tryz.lays29 x hx w hT
end Go.Proofs

namespace Go.Proofs.YtgmhmpflmgfcdaaGreatDoor
open Go.RowKit
def Tab (w : World) : Prop := TabAt (Tryz.lays29_ren.g 1) Lib.deBruijn64tab w
abbrev CT_ (f : Nat) (a : Array Value) (r : Value) : Prop := ∀ w, Tab w → Calls Tryz.prog f a w fun e w' => e = .returned r ∧ Below w.heap.size w w'
theorem Tab.lt {w : World} (h : Tab w) : Tryz.lays29_ren.g 1 < w.heap.size := World.block_lt_of_cell? w _ (h 0 (by decide))
theorem Tab.below {w w' : World} (h : Tab w) (hb : Below w.heap.size w w') : Tab w' := fun j hj => (hb.cell (p := ⟨_, j, none⟩) h.lt).trans (h j hj)
def IsW (x : Int) : Prop := 0 ≤ x ∧ x < 18446744073709551616
theorem IsW.nat {x : Int} (h : IsW x) : ∃ n : Nat, x = n ∧ n < 18446744073709551616 := by
 obtain ⟨n, rfl⟩ := Int.eq_ofNat_of_zero_le h.1
 exact ⟨n, rfl, by have := h.2; omega⟩
theorem ret_ub {a a' : Int} {b b' : Bool} (h : a = a') (h' : b = b') : Ending.returned (.tuple #[.int .u64 a, .bool b]) = .returned (.tuple #[.int .u64 a', .bool b']) := by rw [h, h']
theorem ret_int {k : IntKind} {a b : Int} (h : a = b) : Ending.returned (.int k a) = .returned (.int k b) := by rw [h]
theorem ret_bool {a b : Bool} (h : a = b) : Ending.returned (.bool a) = .returned (.bool b) := by rw [h]
def addW (x y : Int) (c : Bool) : Int := (x + y + cond c 1 0) % 18446744073709551616
def carW (x y : Int) (c : Bool) : Bool := decide (18446744073709551616 ≤ x + y + cond c 1 0)
def subW (x y : Int) (c : Bool) : Int := (x - y - cond c 1 0) % 18446744073709551616
def borW (x y : Int) (c : Bool) : Bool := decide (x < y + cond c 1 0)
theorem wordAdd_any (x y : Int) (c : Bool) (w : World) (hx : IsW x) (hy : IsW y) :
  Calls Tryz.prog 181 #[.int .u64 x, .int .u64 y, .bool c] w fun e w' => e = .returned (.tuple #[.int .u64 (addW x y c), .bool (carW x y c)]) ∧ w = w' := by
 cases c
 ·by_cases h : IntKind.u64.wrap (x + y) < x
  ·have hb : decide (IntKind.u64.wrap (x + y) < x) = true := decide_eq_true h
   go_enter Tryz.func181, Tryz.ntmps181
   go_wp2
   go_ret2
   refine ⟨ret_ub ?_ ?_, rfl⟩
   ·simp only [IntKind.wrap_u64, addW, cond]; omega
   ·obtain ⟨x0, x1⟩ := hx; obtain ⟨y0, y1⟩ := hy
    simp only [IntKind.wrap_u64] at h
    symm; simp only [carW, cond, decide_eq_true_eq]; omega
  ·have hb : decide (IntKind.u64.wrap (x + y) < x) = false := decide_eq_false h
   go_enter Tryz.func181, Tryz.ntmps181
   go_wp2
   go_ret2
   refine ⟨ret_ub ?_ ?_, rfl⟩
   ·simp only [IntKind.wrap_u64, addW, cond]; omega
   ·obtain ⟨x0, x1⟩ := hx; obtain ⟨y0, y1⟩ := hy
    simp only [IntKind.wrap_u64] at h
    symm; simp only [carW, cond, decide_eq_false_iff_not]; omega
 ·by_cases h : IntKind.u64.wrap (x + y) < x
  ·have hb : decide (IntKind.u64.wrap (x + y) < x) = true := decide_eq_true h
   go_enter Tryz.func181, Tryz.ntmps181
   go_wp2
   go_ret2
   refine ⟨ret_ub ?_ ?_, rfl⟩
   ·simp only [IntKind.wrap_u64, addW, cond]; omega
   ·obtain ⟨x0, x1⟩ := hx; obtain ⟨y0, y1⟩ := hy
    simp only [IntKind.wrap_u64] at h
    symm; simp only [carW, cond, decide_eq_true_eq]; omega
  ·have hb : decide (IntKind.u64.wrap (x + y) < x) = false := decide_eq_false h
   go_enter Tryz.func181, Tryz.ntmps181
   go_wp2
   go_ret2
   refine ⟨ret_ub ?_ ?_, rfl⟩
   ·simp only [IntKind.wrap_u64, addW, cond]; omega
   ·obtain ⟨x0, x1⟩ := hx; obtain ⟨y0, y1⟩ := hy
    simp only [IntKind.wrap_u64] at h ⊢
    rw [Bool.eq_iff_iff]; simp only [carW, cond, decide_eq_true_eq, beq_iff_eq]; omega
theorem wordSub_any (x y : Int) (c : Bool) (w : World) (hx : IsW x) (hy : IsW y) :
  Calls Tryz.prog 182 #[.int .u64 x, .int .u64 y, .bool c] w fun e w' => e = .returned (.tuple #[.int .u64 (subW x y c), .bool (borW x y c)]) ∧ w = w' := by
 have hs : IntKind.u64.wrap (IntKind.u64.wrap (x - y) - cond c 1 0) = subW x y c := by
  simp only [IntKind.wrap_u64, subW]; omega
 have HS := Lib.hid hs
 clear hs
 by_cases h : x < y
 ·have hb : decide (x < y) = true := decide_eq_true h
  have HB := Lib.hid (show borW x y c = true by unfold borW; cases c <;> simp <;> omega)
  cases c <;>
  ·go_enter Tryz.func182, Tryz.ntmps182
   go_wp2
   go_ret2
   exact ⟨ret_ub (by rw [← HS.out]; first | rfl | simp) (by rw [HB.out]), rfl⟩
 ·have hb : decide (x < y) = false := decide_eq_false h
  by_cases e : x = y
  ·have he : (x == y) = true := by simpa using e
   cases c
   ·have HB := Lib.hid (show borW x y false = false by unfold borW; simp; omega)
    clear e
    go_enter Tryz.func182, Tryz.ntmps182
    go_wp2
    go_ret2
    exact ⟨ret_ub (by rw [← HS.out]; first | rfl | simp) (by rw [HB.out]), rfl⟩
   ·have HB := Lib.hid (show borW x y true = true by unfold borW; simp; omega)
    clear e
    go_enter Tryz.func182, Tryz.ntmps182
    go_wp2
    go_ret2
    exact ⟨ret_ub (by rw [← HS.out]; first | rfl | simp) (by rw [HB.out]), rfl⟩
  ·have he : (x == y) = false := by simpa using e
   have HB := Lib.hid (show borW x y c = false by unfold borW; cases c <;> simp <;> omega)
   clear e
   cases c <;>
   ·go_enter Tryz.func182, Tryz.ntmps182
    go_wp2
    go_ret2
    exact ⟨ret_ub (by rw [← HS.out]; first | rfl | simp) (by rw [HB.out]), rfl⟩
def mulHi (x y : Int) : Int := ((x.toNat * y.toNat / 18446744073709551616 : Nat) : Int)
def mulLo (x y : Int) : Int := ((x.toNat * y.toNat % 18446744073709551616 : Nat) : Int)
theorem wordMul_any (x y : Int) (w : World) (hx : IsW x) (hy : IsW y) :
  Calls Tryz.prog 185 #[.int .u64 x, .int .u64 y] w fun e w' => e = .returned (.tuple #[.int .u64 (mulHi x y), .int .u64 (mulLo x y)]) ∧ w = w' := by
 obtain ⟨a, rfl, ha⟩ := hx.nat
 obtain ⟨b, rfl, hb⟩ := hy.nat
 have A := Lib.hid ha
 have B := Lib.hid hb
 clear ha hb hx hy
 go_enter Tryz.func185, Tryz.ntmps185
 go_wp2_with fail
 refine (Tryz.bits_Mul64 a b A.out B.out _).mono ?_
 rintro e w' ⟨rfl, rfl⟩
 go_wp2
 go_ret2
 exact ⟨rfl, rfl⟩
def lenW (x : Int) : Int := (Lib.bitLen x.toNat : Nat)
theorem wordLen_any (x : Int) (w : World) (hx : IsW x) :
  Calls Tryz.prog 161 #[.int .u64 x] w fun e w' => e = .returned (.int .i64 (lenW x)) ∧ w = w' := by
 go_enter Tryz.func161, Tryz.ntmps161
 go_wp2_with fail
 refine (Tryz.bits_Len64 x _ hx.1 (by have := hx.2; omega)).mono ?_
 rintro e w' ⟨rfl, rfl⟩
 go_wp2
 go_ret
 exact ⟨rfl, rfl⟩
def lowW (x : Int) : Int := (Lib.ctz 64 x.toNat : Nat)
theorem wordLow_any (x : Int) (w : World) (hx : IsW x) (hT : Tab w) :
  Calls Tryz.prog 231 #[.int .u64 x] w fun e w' => e = .returned (.int .i64 (lowW x)) ∧ w = w' := by
 obtain ⟨a, rfl, ha⟩ := hx.nat
 have A := Lib.hid ha
 have T := Lib.hid hT
 clear ha hx hT
 go_enter Tryz.func231, Tryz.ntmps231
 go_wp2_with fail
 refine (Tryz.bits_TrailingZeros64 a A.out _ (fun _ => T.out)).mono ?_
 rintro e w' ⟨rfl, rfl⟩
 go_wp2
 go_ret
 exact ⟨rfl, rfl⟩
def top6 : Nat := 2 ^ (64 * 6)
def lenN (a : Nat) : Nat := if a = 0 then 0 else Nat.log2 a + 1
theorem lenN_zero : lenN 0 = 0 := rfl
theorem lenN_le (a k : Nat) : lenN a ≤ k ↔ a < 2 ^ k := by
 unfold lenN
 by_cases h : a = 0
 ·subst h; simp [Nat.two_pow_pos]
 ·rw [if_neg h, ← Nat.log2_lt h]; omega
theorem lenN_lt (a : Nat) : a < 2 ^ lenN a := (lenN_le a _).1 (Nat.le_refl _)
theorem lenN_ge (a : Nat) (h : a ≠ 0) : 2 ^ (lenN a - 1) ≤ a := by
 rcases Nat.lt_or_ge a (2 ^ (lenN a - 1)) with hl | hl
 ·have := (lenN_le a _).2 hl
  have : lenN a ≠ 0 := by unfold lenN; rw [if_neg h]; omega
  omega
 ·exact hl
theorem lenN_pos (a : Nat) (h : a ≠ 0) : 1 ≤ lenN a := by unfold lenN; rw [if_neg h]; omega
theorem lenN_unique (a n : Nat) (h1 : 2 ^ (n - 1) ≤ a) (h2 : a < 2 ^ n) (hn : 1 ≤ n) : lenN a = n := by
 have ha : a ≠ 0 := by have := Nat.two_pow_pos (n - 1); omega
 have l1 : lenN a ≤ n := (lenN_le a n).2 h2
 rcases Nat.lt_or_ge (lenN a) n with h | h
 ·have : a < 2 ^ (n - 1) := (lenN_le a _).1 (by omega)
  omega
 ·omega
def wF : Nat → Nat | 0 => 32 | 1 => 64 | 2 => 16 | 3 => 128 | _ => 0
def pF : Nat → Nat | 0 => 24 | 1 => 53 | 2 => 11 | 3 => 113 | _ => 0
def eF : Nat → Nat | 0 => 127 | 1 => 1023 | 2 => 15 | 3 => 16383 | _ => 0
def nameF : Nat → Array UInt8 | 0 => #[115] | 1 => #[100] | 2 => #[104] | 3 => #[113] | _ => #[]
theorem forms (f : Nat) : f = 0 ∨ f = 1 ∨ f = 2 ∨ f = 3 ∨ 4 ≤ f := by omega
theorem wF_big (f : Nat) (h : 4 ≤ f) : wF f = 0 ∧ pF f = 0 ∧ eF f = 0 ∧ nameF f = #[] := by
 match f, h with
 | f + 4, _ => exact ⟨rfl, rfl, rfl, rfl⟩
def eminI (f : Nat) : Int := cond (decide (f < 4)) (1 - (eF f : Nat)) 0
theorem eF_le (f : Nat) : eF f ≤ 16383 := by
 rcases forms f with rfl | rfl | rfl | rfl | h
 ·decide
 ·decide
 ·decide
 ·decide
 ·rw [(wF_big f h).2.2.1]; omega
def fitsB (f b : Nat) : Bool := decide (f < 4) && decide (b < 2 ^ wF f)
def expN (f b : Nat) : Nat := b / 2 ^ (pF f - 1) % 2 ^ (wF f - pF f)
theorem formB (f : Nat) (h : f < 4) : 11 ≤ pF f ∧ pF f ≤ 113 ∧ 16 ≤ wF f ∧ wF f ≤ 128 ∧ pF f + 5 ≤ wF f ∧ wF f ≤ pF f + 15 := by
 have : f = 0 ∨ f = 1 ∨ f = 2 ∨ f = 3 := by omega
 rcases this with rfl | rfl | rfl | rfl <;> decide
def clsN (f b : Nat) : Nat :=
 if expN f b = 2 * eF f + 1 then (if b % 2 ^ (pF f - 1) = 0 then cond (b.testBit (wF f - 1)) 0 7 else cond ((b % 2 ^ (pF f - 1)).testBit (pF f - 2)) 9 8)
 else if expN f b = 0 then (if b % 2 ^ (pF f - 1) = 0 then cond (b.testBit (wF f - 1)) 3 4 else cond (b.testBit (wF f - 1)) 2 5)
 else cond (b.testBit (wF f - 1)) 1 6
def upB (m : Nat) (neg odd : Bool) (half : Int) (exact : Bool) : Bool :=
 !exact && (match m with | 0 => decide (0 < half) || (decide (half = 0) && odd) | 2 => neg | 3 => !neg | 4 => decide (0 ≤ half) | _ => false)
theorem upB_big (m : Nat) (neg odd : Bool) (half : Int) (exact : Bool) (h : 5 ≤ m) : upB m neg odd half exact = false := by
 match m, h with
 | m + 5, _ => simp [upB]
def halfN (a n : Nat) : Int := if n = 0 then -1 else if a.testBit (n - 1) then (if a % 2 ^ (n - 1) = 0 then 0 else 1) else -1
def cmpN (a b : Nat) : Int := if a < b then -1 else if b < a then 1 else 0
def Blk (T : TypeId) (w : World) (g : Nat) (cs : Array Value) : Prop := w.heap[g]? = some (.cells cs T (0, 0))
section
variable {T : TypeId} {w : World} {g : Nat} {cs : Array Value}
theorem Blk.cell (h : Blk T w g cs) (j : Nat) {v : Value} (hv : cs[j]? = some v) : w.cell? ⟨g, j, none⟩ = some v := (cell_of_row w g j cs _ _ h).trans hv
theorem Blk.free (h : Blk T w g cs) (j : Nat) : w.frozen? ⟨g, j, none⟩ = false := frozen_of_row w g j cs _ h
theorem Blk.lt (h : Blk T w g cs) : g < w.heap.size := (Array.getElem?_eq_some_iff.1 h).1
theorem Blk.set (h : Blk T w g cs) (j : Nat) (v : Value) {cs' : Array Value} (e : cs.setIfInBounds j v = cs') : Blk T (w.setCell ⟨g, j, none⟩ v) g cs' := by
 subst e; exact heap_setCell_same w g j cs T v h
theorem Blk.other (h : Blk T w g cs) (a : Addr) (v : Value) (hne : g ≠ a.block) : Blk T (w.setCell a v) g cs := (heap_setCell_other w a g v hne).trans h
theorem Blk.drew (h : Blk T w g cs) : Blk T w.drew g cs := h
theorem Blk.alloc (h : Blk T w g cs) (o : Obj) : Blk T (w.alloc o) g cs := (heap_alloc_old w o h.lt).trans h
theorem Blk.new (w : World) (cs : Array Value) : Blk T (w.alloc (.cells cs T (0, 0))) w.heap.size cs := heap_alloc_new w _
theorem Blk.keep (h : Blk T w g cs) (j : Nat) (v : Value) (hv : cs[j]? = some v) : w.setCell ⟨g, j, none⟩ v = w := by
 have e : (w.setCell ⟨g, j, none⟩ v).heap = w.heap := by
  apply Array.ext_getElem?
  intro k
  by_cases hk : k = g
  ·subst hk
   rw [heap_setCell_same w k j cs T v h, h]
   congr 2
   apply Array.ext_getElem?
   intro i
   rw [Array.getElem?_setIfInBounds]
   split
   ·rename_i hij; subst hij
    split
    ·exact hv.symm
    ·rename_i hn; rw [Array.getElem?_eq_none (by omega)] at hv; cases hv
   ·rfl
  ·exact heap_setCell_other w ⟨g, j, none⟩ k v hk
 unfold World.setCell at e ⊢
 simp only at e
 rw [e]
theorem Blk.below {w' : World} {B : Nat} (h : Blk T w g cs) (hb : Below B w w') (hg : g < B) : Blk T w' g cs := by
 have := hb.block g hg
 unfold Blk
 rw [this]; exact h
end
abbrev Bk := Nat × TypeId × Array Value
structure Own (w0 w : World) (L : List Bk) : Prop where
 below : Below w0.heap.size w0 w
 blk : ∀ x ∈ L, Blk x.2.1 w x.1 x.2.2
 ge : ∀ x ∈ L, w0.heap.size ≤ x.1
 ne : L.Pairwise fun x y => x.1 ≠ y.1
theorem Own.start (w : World) : Own w w [] := ⟨Below.refl _ _, (by intro x h; cases h), (by intro x h; cases h), List.Pairwise.nil⟩
section
variable {w0 w w' : World} {L : List Bk}
theorem Own.alloc (H : Own w0 w L) (T : TypeId) (cs : Array Value) : Own w0 (w.alloc (.cells cs T (0, 0))) ((w.heap.size, T, cs) :: L) := by
 refine ⟨H.below.alloc H.below.size _, ?_, ?_, ?_⟩
 ·intro x hx
  rcases List.mem_cons.1 hx with rfl | hx
  ·exact Blk.new w cs
  ·exact (H.blk x hx).alloc _
 ·intro x hx
  rcases List.mem_cons.1 hx with rfl | hx
  ·exact H.below.size
  ·exact H.ge x hx
 ·refine List.pairwise_cons.2 ⟨fun y hy => ?_, H.ne⟩
  have := (H.blk y hy).lt
  show w.heap.size ≠ y.1
  omega
theorem Own.call (H : Own w0 w L) (hb : Below w.heap.size w w') : Own w0 w' L :=
 ⟨H.below.trans (hb.mono H.below.size), fun x hx => (H.blk x hx).below hb (H.blk x hx).lt, H.ge, H.ne⟩
theorem Own.kc {w0 w : World} {L : List Bk} {P : Program} {f : Nat} {args : Array Value} {K : Ending → World → Prop} {v : Value} (H : Own w0 w L) (c : Calls P f args w fun e w' => e = .returned v ∧ Below w.heap.size w w') (h : ∀ w', Own w0 w' L → K (.returned v) w') : Calls P f args w K :=
 c.mono fun e w' he => by obtain ⟨rfl, hb⟩ := he; exact h w' (H.call hb)
theorem Own.drew (H : Own w0 w L) : Own w0 w.drew L := ⟨H.below.drew, fun x hx => (H.blk x hx).drew, H.ge, H.ne⟩
theorem Own.sub (H : Own w0 w L) {L' : List Bk} (h : List.Sublist L' L) : Own w0 w L' :=
 ⟨H.below, fun x hx => H.blk x (h.subset hx), fun x hx => H.ge x (h.subset hx), H.ne.sublist h⟩
theorem Own.tail {x : Bk} (H : Own w0 w (x :: L)) : Own w0 w L := H.sub (List.sublist_cons_self _ _)
theorem Own.at (H : Own w0 w L) (i : Nat) {g : Nat} {T : TypeId} {cs : Array Value} (h : L[i]? = some (g, T, cs)) : Blk T w g cs := H.blk (g, T, cs) (List.mem_of_getElem? h)
theorem Own.base (H : Own w0 w L) (i : Nat) {g : Nat} {T : TypeId} {cs : Array Value} (h : L[i]? = some (g, T, cs)) : w0.heap.size ≤ g := H.ge (g, T, cs) (List.mem_of_getElem? h)
def setRow (cs : Array Value) : Nat → List Value → Array Value
 | _, [] => cs
 | o, v :: r => setRow (cs.setIfInBounds o v) (o + 1) r
theorem setRow_size (vs : List Value) : ∀ (cs : Array Value) (o : Nat), (setRow cs o vs).size = cs.size := by
 induction vs with
 | nil => intros; rfl
 | cons v r ih => intro cs o; rw [setRow, ih]; simp
theorem Blk.row {T : TypeId} {g : Nat} (vs : List Value) : ∀ (w : World) (cs : Array Value) (o : Nat), Blk T w g cs → Blk T (w.setCells g o vs) g (setRow cs o vs) := by
 induction vs with
 | nil => intro w cs o h; exact h
 | cons v r ih => intro w cs o h; exact ih _ _ _ (h.set o v rfl)
theorem Blk.row_other {T : TypeId} {g g' : Nat} {cs : Array Value} (hne : g ≠ g') (vs : List Value) : ∀ (w : World) (o : Nat), Blk T w g cs → Blk T (w.setCells g' o vs) g cs := by
 induction vs with
 | nil => intro w o h; exact h
 | cons v r ih => intro w o h; exact ih _ _ (h.other _ _ hne)
theorem below_row {B : Nat} {g : Nat} (hg : B ≤ g) (vs : List Value) : ∀ (w : World) (o : Nat), Below B w0 w → Below B w0 (w.setCells g o vs) := by
 induction vs with
 | nil => intro w o h; exact h
 | cons v r ih => intro w o h; exact ih _ _ (h.setCell hg _)
theorem Own.set (H : Own w0 w L) (i : Nat) {g : Nat} {T : TypeId} {cs cs' : Array Value} (h : L[i]? = some (g, T, cs)) (o : Nat) (vs : List Value) (e : setRow cs o vs = cs') :
  Own w0 (w.setCells g o vs) (L.set i (g, T, cs')) := by
 subst e
 have hi : i < L.length := (List.getElem?_eq_some_iff.1 h).1
 have hgi : L[i] = (g, T, cs) := (List.getElem?_eq_some_iff.1 h).2
 have hne := List.pairwise_iff_getElem.1 H.ne
 have other : ∀ (j : Nat) (hj : j < L.length), j ≠ i → L[j].1 ≠ g := by
  intro j hj hji
  rcases Nat.lt_or_ge j i with hlt | hge
  ·have := hne j i hj hi hlt
   rw [hgi] at this; exact this
  ·have := hne i j hi hj (by omega)
   rw [hgi] at this; exact fun e => this e.symm
 refine ⟨below_row (H.base i h) vs w o H.below, ?_, ?_, ?_⟩
 ·intro x hx
  obtain ⟨j, hj, rfl⟩ := List.mem_iff_getElem.1 hx
  rw [List.length_set] at hj
  rw [List.getElem_set]
  split
  ·exact Blk.row vs w cs o (H.at i h)
  ·rename_i hij
   exact Blk.row_other (other j hj (fun e => hij e.symm)) vs w o (H.blk _ (List.getElem_mem hj))
 ·intro x hx
  obtain ⟨j, hj, rfl⟩ := List.mem_iff_getElem.1 hx
  rw [List.length_set] at hj
  rw [List.getElem_set]
  split
  ·exact H.base i h
  ·exact H.ge _ (List.getElem_mem hj)
 ·rw [List.pairwise_iff_getElem]
  intro j k hj hk hjk
  rw [List.length_set] at hj hk
  rw [List.getElem_set, List.getElem_set]
  split
  ·rename_i hji; subst hji
   rw [if_neg (by omega)]
   exact fun e => other k hk (by omega) e.symm
  ·rename_i hji
   split
   ·exact other j hj (fun e => hji e.symm)
   ·exact hne j k hj hk hjk
theorem Own.range (H : Own w0 w L) (i : Nat) {g : Nat} {T : TypeId} {cs : Array Value} (h : L[i]? = some (g, T, cs)) (o n : Nat) {v : Array Value} (e : cs.extract o (o + n) = v) : w.rangeAt g o v.toList := by
 subst e
 exact World.rangeAt_of_block (H.at i h) o n
theorem Own.there (H : Own w0 w L) (i : Nat) {g : Nat} {T : TypeId} {cs : Array Value} (h : L[i]? = some (g, T, cs)) (o n : Nat) (hn : o + n ≤ cs.size) : w.there g o n := by
 intro j hj
 have hb := H.at i h
 refine ⟨?_, hb.free _⟩
 have : cs[o + j]? = some cs[o + j] := Array.getElem?_eq_getElem (by omega)
 rw [hb.cell (o + j) this]; rfl
variable {P : Program} {ops : Array Oper} {Q : Exit → Act → World → Prop} {rest : List Oper} {op : Oper} {a : Act}
theorem run_zeroValue {T : TypeId} {z : Value} (hz : (P.info? T).bind (·.zero) = some z) (w : World) : (zeroValue T).run P w = .ok z w := by
 cases hq : P.info? T with
 | none => simp [hq] at hz
 | some i =>
  have hs : i.zero = some z := by simpa [hq] using hz
  simp [zeroValue, Sem.run_bind, typeInfo, hq, hs]
theorem run_loadVar_one {ty : TypeId} {d : TypeDesc} (hu : P.underlying ty = some d) (hd : d.isRow = false) (A : Addr) {v : Value} (hc : w.cell? A = some v) : (loadVar ty A).run P w = .ok v w := by
 have hagg : (isAgg ty).run P w = .ok false w := by
  unfold isAgg
  rw [Sem.run_bind, run_underlying hu w]
  cases d <;> simp_all
 simp [loadVar, Sem.run_bind, hagg, load, Sem.run, hc]
variable {S : World → Prop}
theorem yields_load {L : List Bk} (hS : ∀ w, S w → Own w0 w L) (hw : Region.wanted op (yielded ops a.tmps) = true) {ty : TypeId} {x : Operand} (ho : op.op = .load ty x) {g o : Nat} (hx : a.eval x = .pointer (some ⟨g, o, none⟩))
  (i : Nat) {T : TypeId} {cs : Array Value} (hi : L[i]? = some (g, T, cs)) {d : TypeDesc} (hu : P.underlying ty = some d) (hd : d.isRow = true) {v : Array Value} (hs : (P.info? ty).map (·.size) = some v.size)
  (hv : cs.extract o (o + v.size) = v) : YieldsIf P ops S op (.agg v) a := by
 have := yieldsIf_load_mid (P := P) (ops := ops) (S := S) (a := a) hw ty x ho g o hx v.toList d (fun w h => (hS w h).range i hi o _ hv) hu hd (by simpa using hs)
 simpa using this
theorem yields_load1 {L : List Bk} (hS : ∀ w, S w → Own w0 w L) (hw : Region.wanted op (yielded ops a.tmps) = true) {ty : TypeId} {x : Operand} (ho : op.op = .load ty x) {g o : Nat} (hx : a.eval x = .pointer (some ⟨g, o, none⟩))
  (i : Nat) {T : TypeId} {cs : Array Value} (hi : L[i]? = some (g, T, cs)) {d : TypeDesc} (hu : P.underlying ty = some d) (hd : d.isRow = false) {v : Value}
  (hv : cs[o]? = some v) : YieldsIf P ops S op v a := by
 refine Or.inl ⟨hw, fun w hs => ?_⟩
 unfold execOp
 simp only [ho, hx, Instr.loadAt, Instr.sureAddr, Sem.run_bind, Sem.run_pure, Result.andThen_ok, run_loadVar_one hu hd _ (((hS w hs).at i hi).cell o hv)]
theorem yields_run {v : Value} (hw : Region.wanted op (yielded ops a.tmps) = true) (h : ∀ w, (execOp a.eval op).run P w = .ok (.value v) w) : YieldsIf P ops S op v a := Or.inl ⟨hw, fun w _ => h w⟩
theorem Own.result (H : Own w0 w L) (i : Nat) {g o : Nat} {T : TypeId} {cs : Array Value} (hi : L[i]? = some (g, T, cs)) {ty : TypeId} {d : TypeDesc} (hu : P.underlying ty = some d) (hd : d.isRow = true) {v : Array Value} (hs : (P.info? ty).map (·.size) = some v.size)
  (hv : cs.extract o (o + v.size) = v) : (loadVar ty ⟨g, o, none⟩).run P w = .ok (.agg v) w := by
 have := run_loadVar_mid (P := P) w g o ty v.toList d (H.range i hi o _ hv) hu hd (by simpa using hs)
 simpa using this
end
def limbN (a i : Nat) : Nat := a / 2 ^ (64 * i) % 18446744073709551616
def limb (a i : Nat) : Int := (limbN a i : Nat)
theorem limbN_lt (a i : Nat) : limbN a i < 18446744073709551616 := Nat.mod_lt _ (by decide)
theorem limb_w (a i : Nat) : IsW (limb a i) := by
 have := limbN_lt a i
 unfold limb IsW
 omega
def limbs (a : Nat) : Array Value := #[.int .u64 (limb a 0), .int .u64 (limb a 1), .int .u64 (limb a 2), .int .u64 (limb a 3), .int .u64 (limb a 4), .int .u64 (limb a 5)]
abbrev W (a : Nat) : Value := .agg (limbs a)
theorem limbs_get (a i : Nat) (h : i < 6) : (limbs a)[i]? = some (.int .u64 (limb a i)) := by
 have : i = 0 ∨ i = 1 ∨ i = 2 ∨ i = 3 ∨ i = 4 ∨ i = 5 := by omega
 rcases this with rfl | rfl | rfl | rfl | rfl | rfl <;> rfl
@[go_sem] theorem limbs_size (a : Nat) : (limbs a).size = 6 := rfl
@[go_sem] theorem limbs_g0 (a : Nat) (h : 0 < (limbs a).size) : (limbs a)[0] = .int .u64 (limb a 0) := rfl
@[go_sem] theorem limbs_g1 (a : Nat) (h : 1 < (limbs a).size) : (limbs a)[1] = .int .u64 (limb a 1) := rfl
@[go_sem] theorem limbs_g2 (a : Nat) (h : 2 < (limbs a).size) : (limbs a)[2] = .int .u64 (limb a 2) := rfl
@[go_sem] theorem limbs_g3 (a : Nat) (h : 3 < (limbs a).size) : (limbs a)[3] = .int .u64 (limb a 3) := rfl
@[go_sem] theorem limbs_g4 (a : Nat) (h : 4 < (limbs a).size) : (limbs a)[4] = .int .u64 (limb a 4) := rfl
@[go_sem] theorem limbs_g5 (a : Nat) (h : 5 < (limbs a).size) : (limbs a)[5] = .int .u64 (limb a 5) := rfl
@[go_sem] theorem limbs_o0 (a : Nat) : (limbs a)[0]? = some (.int .u64 (limb a 0)) := rfl
@[go_sem] theorem limbs_o1 (a : Nat) : (limbs a)[1]? = some (.int .u64 (limb a 1)) := rfl
@[go_sem] theorem limbs_o2 (a : Nat) : (limbs a)[2]? = some (.int .u64 (limb a 2)) := rfl
@[go_sem] theorem limbs_o3 (a : Nat) : (limbs a)[3]? = some (.int .u64 (limb a 3)) := rfl
@[go_sem] theorem limbs_o4 (a : Nat) : (limbs a)[4]? = some (.int .u64 (limb a 4)) := rfl
@[go_sem] theorem limbs_o5 (a : Nat) : (limbs a)[5]? = some (.int .u64 (limb a 5)) := rfl
theorem limbs_zero : limbs 0 = #[.int .u64 0, .int .u64 0, .int .u64 0, .int .u64 0, .int .u64 0, .int .u64 0] := by
 unfold limbs limb limbN; simp only [Nat.zero_div, Nat.zero_mod]; rfl
theorem B64 : (18446744073709551616 : Nat) = 2 ^ 64 := by decide
theorem pw_succ (k : Nat) : 2 ^ (64 * (k + 1)) = 2 ^ (64 * k) * 18446744073709551616 := by rw [Nat.mul_succ, Nat.pow_add]
theorem pw_pos (k : Nat) : 0 < 2 ^ (64 * k) := Nat.two_pow_pos _
theorem limbN_put (s v k i : Nat) (hs : s < 2 ^ (64 * k)) (hv : v < 18446744073709551616) : limbN (s + v * 2 ^ (64 * k)) i = if i = k then v else limbN s i := by
 unfold limbN
 rcases Nat.lt_trichotomy i k with h | h | h
 ·rw [if_neg (by omega)]
  have e : 2 ^ (64 * k) = 2 ^ (64 * i) * (18446744073709551616 * 2 ^ (64 * (k - i - 1))) := by
   rw [show 64 * k = 64 * i + (64 + 64 * (k - i - 1)) by omega, Nat.pow_add, Nat.pow_add]
  rw [e, show v * (2 ^ (64 * i) * (18446744073709551616 * 2 ^ (64 * (k - i - 1)))) = 2 ^ (64 * i) * (18446744073709551616 * (v * 2 ^ (64 * (k - i - 1)))) by
   rw [Nat.mul_left_comm, Nat.mul_left_comm v]]
  rw [Nat.add_mul_div_left _ _ (pw_pos i), Nat.add_mul_mod_self_left]
 ·subst h
  rw [if_pos rfl, Nat.add_mul_div_right _ _ (pw_pos i), Nat.div_eq_of_lt hs, Nat.zero_add, Nat.mod_eq_of_lt hv]
 ·rw [if_neg (by omega)]
  have hle : 2 ^ (64 * k) * 18446744073709551616 ≤ 2 ^ (64 * i) := by
   rw [← pw_succ]; exact Nat.pow_le_pow_right (by decide) (by omega)
  have hlt : s + v * 2 ^ (64 * k) < 2 ^ (64 * i) := by
   have : s + v * 2 ^ (64 * k) < (v + 1) * 2 ^ (64 * k) := by rw [Nat.add_mul]; omega
   have h2 : (v + 1) * 2 ^ (64 * k) ≤ 18446744073709551616 * 2 ^ (64 * k) := Nat.mul_le_mul_right _ (by omega)
   rw [Nat.mul_comm 18446744073709551616] at h2
   omega
  rw [Nat.div_eq_of_lt hlt, Nat.div_eq_of_lt (Nat.lt_of_lt_of_le hs (Nat.pow_le_pow_right (by decide) (by omega)))]
theorem limbs_put (s v k : Nat) (hk : k < 6) (hs : s < 2 ^ (64 * k)) (hv : v < 18446744073709551616) :
  (limbs s).setIfInBounds k (.int .u64 (v : Nat)) = limbs (s + v * 2 ^ (64 * k)) := by
 have e : ∀ i, limb (s + v * 2 ^ (64 * k)) i = if i = k then (v : Int) else limb s i := by
  intro i
  unfold limb
  rw [limbN_put s v k i hs hv]
  split <;> rfl
 unfold limbs
 simp only [e]
 have : k = 0 ∨ k = 1 ∨ k = 2 ∨ k = 3 ∨ k = 4 ∨ k = 5 := by omega
 rcases this with rfl | rfl | rfl | rfl | rfl | rfl <;> simp
theorem limbs_eq (a b : Nat) (h : ∀ i, i < 6 → limbN a i = limbN b i) : limbs a = limbs b := by
 unfold limbs limb
 rw [h 0 (by decide), h 1 (by decide), h 2 (by decide), h 3 (by decide), h 4 (by decide), h 5 (by decide)]
theorem mod_low (a k : Nat) : a % 2 ^ (64 * (k + 1)) = a % 2 ^ (64 * k) + limbN a k * 2 ^ (64 * k) := by
 unfold limbN
 rw [pw_succ, Nat.mod_mul, Nat.mul_comm (2 ^ (64 * k))]
theorem limbN_mod (a i k : Nat) (h : i < k) : limbN (a % 2 ^ (64 * k)) i = limbN a i := by
 unfold limbN
 have e : 2 ^ (64 * k) = 2 ^ (64 * i) * (18446744073709551616 * 2 ^ (64 * (k - i - 1))) := by
  rw [show 64 * k = 64 * i + (64 + 64 * (k - i - 1)) by omega, Nat.pow_add, Nat.pow_add]
 rw [e, Nat.mod_mul_right_div_self, Nat.mod_mul_right_mod]
theorem limbs_inj (a b : Nat) (ha : a < top6) (hb : b < top6) (h : ∀ i, i < 6 → limbN a i = limbN b i) : a = b := by
 have key : ∀ k, k ≤ 6 → a % 2 ^ (64 * k) = b % 2 ^ (64 * k) := by
  intro k
  induction k with
  | zero => intro _; simp [Nat.mod_one]
  | succ k ih =>
   intro hk
   rw [mod_low, mod_low, ih (by omega), h k (by omega)]
 have := key 6 (Nat.le_refl _)
 unfold top6 at ha hb
 rw [Nat.mod_eq_of_lt ha, Nat.mod_eq_of_lt hb] at this
 exact this
theorem limbs_mod (a : Nat) : limbs (a % top6) = limbs a := by
 unfold top6
 exact limbs_eq _ _ (fun i hi => limbN_mod a i 6 hi)
def cbit (a b k : Nat) : Bool := decide (2 ^ (64 * k) ≤ a % 2 ^ (64 * k) + b % 2 ^ (64 * k))
theorem cbit_zero (a b : Nat) : cbit a b 0 = false := by
 unfold cbit
 rw [decide_eq_false_iff_not]
 have h1 := Nat.mod_lt a (pw_pos 0)
 have h2 := Nat.mod_lt b (pw_pos 0)
 have e : 2 ^ (64 * 0) = 1 := rfl
 omega
theorem sum_div (a b M : Nat) (hM : 0 < M) : (a + b) / M = a / M + b / M + if M ≤ a % M + b % M then 1 else 0 := Nat.add_div hM
theorem sum_step (a b k : Nat) : (a + b) % 2 ^ (64 * (k + 1)) = (a + b) % 2 ^ (64 * k) + (limbN a k + limbN b k + (cbit a b k).toNat) % 18446744073709551616 * 2 ^ (64 * k) := by
 rw [mod_low]
 congr 2
 unfold limbN cbit
 rw [sum_div a b _ (pw_pos k)]
 by_cases h : 2 ^ (64 * k) ≤ a % 2 ^ (64 * k) + b % 2 ^ (64 * k)
 ·simp only [h, if_true, decide_true, Bool.toNat_true]; omega
 ·simp only [h, if_false, decide_false, Bool.toNat_false]; omega
theorem cbit_step (a b k : Nat) : cbit a b (k + 1) = decide (18446744073709551616 ≤ limbN a k + limbN b k + (cbit a b k).toNat) := by
 unfold cbit
 rw [mod_low, mod_low, pw_succ]
 generalize limbN a k = x
 generalize limbN b k = y
 have h1 := Nat.mod_lt a (pw_pos k)
 have h2 := Nat.mod_lt b (pw_pos k)
 generalize 2 ^ (64 * k) = M at *
 generalize a % M = p at *
 generalize b % M = q at *
 rw [Bool.eq_iff_iff, decide_eq_true_iff, decide_eq_true_iff]
 have e : p + x * M + (q + y * M) = (p + q) + (x + y) * M := by rw [Nat.add_mul]; omega
 rw [e, Nat.mul_comm M]
 by_cases h : M ≤ p + q
 ·simp only [h, decide_true, Bool.toNat_true]
  constructor
  ·intro hh
   have : 18446744073709551616 * M < (x + y + 2) * M := by rw [Nat.add_mul (x + y)]; omega
   have := Nat.lt_of_mul_lt_mul_right this
   omega
  ·intro hh
   have : 18446744073709551616 * M ≤ (x + y + 1) * M := Nat.mul_le_mul_right _ hh
   rw [Nat.add_mul (x + y)] at this
   omega
 ·simp only [h, decide_false, Bool.toNat_false]
  constructor
  ·intro hh
   have : 18446744073709551616 * M < (x + y + 1) * M := by rw [Nat.add_mul (x + y)]; omega
   have := Nat.lt_of_mul_lt_mul_right this
   omega
  ·intro hh
   have : 18446744073709551616 * M ≤ (x + y) * M := Nat.mul_le_mul_right _ (by omega)
   omega
theorem addW_nat (x y : Nat) (c : Bool) : addW (x : Int) (y : Int) c = (((x + y + c.toNat) % 18446744073709551616 : Nat) : Int) := by
 unfold addW; cases c <;> simp
theorem carW_nat (x y : Nat) (c : Bool) : carW (x : Int) (y : Int) c = decide (18446744073709551616 ≤ x + y + c.toNat) := by
 unfold carW; rw [Bool.eq_iff_iff, decide_eq_true_iff, decide_eq_true_iff]; cases c <;> simp <;> omega
def fillTo (base : Array Value) (f : Nat → Value) : Nat → Array Value
 | 0 => base
 | k + 1 => (fillTo base f k).setIfInBounds k (f k)
theorem fillTo_size (base : Array Value) (f : Nat → Value) (k : Nat) : (fillTo base f k).size = base.size := by
 induction k with
 | zero => rfl
 | succ k ih => simp [fillTo, ih]
theorem fillTo_hi (base : Array Value) (f : Nat → Value) (k j : Nat) (h : k ≤ j) : (fillTo base f k)[j]? = base[j]? := by
 induction k with
 | zero => rfl
 | succ k ih =>
  rw [fillTo, Array.getElem?_setIfInBounds, if_neg (by omega)]
  exact ih (by omega)
theorem fillTo_lo (base : Array Value) (f : Nat → Value) (k j : Nat) (h : j < k) (hb : j < base.size) : (fillTo base f k)[j]? = some (f j) := by
 induction k with
 | zero => omega
 | succ k ih =>
  rw [fillTo, Array.getElem?_setIfInBounds]
  by_cases e : k = j
  ·subst e
   rw [if_pos rfl, if_pos (by rw [fillTo_size]; exact hb)]
  ·rw [if_neg e]; exact ih (by omega)
theorem fillTo_all (base : Array Value) (f : Nat → Value) (a : Nat) (hb : base.size = 6) (h : ∀ i, i < 6 → f i = .int .u64 (limb a i)) : fillTo base f 6 = limbs a := by
 apply Array.ext_getElem?
 intro j
 by_cases hj : j < 6
 ·rw [fillTo_lo base f 6 j hj (by omega), limbs_get a j hj, h j hj]
 ·rw [Array.getElem?_eq_none (by rw [fillTo_size]; omega), Array.getElem?_eq_none (by rw [limbs_size]; omega)]
theorem limbN_and (a b i : Nat) : limbN (a &&& b) i = limbN a i &&& limbN b i := by
 unfold limbN; rw [B64, Nat.and_div_two_pow, Nat.and_mod_two_pow]
theorem limbN_or (a b i : Nat) : limbN (a ||| b) i = limbN a i ||| limbN b i := by
 unfold limbN; rw [B64, Nat.or_div_two_pow, Nat.or_mod_two_pow]
theorem limb_and (a b i : Nat) : Go.bits .and .u64 (limb a i) (limb b i) = limb (a &&& b) i := by
 unfold limb; rw [u64_and_nat _ _ (limbN_lt a i) (limbN_lt b i), limbN_and]
theorem limb_or (a b i : Nat) : Go.bits .or .u64 (limb a i) (limb b i) = limb (a ||| b) i := by
 unfold limb; rw [u64_or_nat _ _ (limbN_lt a i) (limbN_lt b i), limbN_or]
abbrev BV (b : Nat) : Value := .agg #[.int .u64 (limb b 1), .int .u64 (limb b 0)]
theorem bitLen_eq (x : Nat) (h : x < 2 ^ 64) : Lib.bitLen x = lenN x := by
 by_cases hx : x = 0
 ·subst hx; rfl
 ·have := Lib.bitLenAux_bounds 64 x h hx
  exact (lenN_unique x _ this.2.1 this.2.2 this.1).symm
theorem lenW_limb (a i : Nat) : lenW (limb a i) = (lenN (limbN a i) : Nat) := by
 unfold lenW limb
 rw [Int.toNat_natCast, bitLen_eq _ (limbN_lt a i)]
theorem lenN_top (a k : Nat) (h : a < 2 ^ (64 * (k + 1))) (hk : limbN a k ≠ 0) : lenN a = 64 * k + lenN (limbN a k) := by
 have e : limbN a k = a / 2 ^ (64 * k) := by
  unfold limbN
  apply Nat.mod_eq_of_lt
  rw [Nat.div_lt_iff_lt_mul (pw_pos k), Nat.mul_comm, ← pw_succ]; exact h
 rw [e] at hk ⊢
 have hl := lenN_lt (a / 2 ^ (64 * k))
 have hg := lenN_ge _ hk
 have hp := lenN_pos _ hk
 apply lenN_unique
 ·rw [show 64 * k + lenN (a / 2 ^ (64 * k)) - 1 = (lenN (a / 2 ^ (64 * k)) - 1) + 64 * k by omega, Nat.pow_add]
  exact (Nat.le_div_iff_mul_le (pw_pos k)).1 hg
 ·rw [Nat.add_comm, Nat.pow_add]
  exact (Nat.div_lt_iff_lt_mul (pw_pos k)).1 hl
 ·omega
theorem top_zero (a k : Nat) (h : a < 2 ^ (64 * (k + 1))) (hk : limbN a k = 0) : a < 2 ^ (64 * k) := by
 have e : limbN a k = a / 2 ^ (64 * k) := by
  unfold limbN
  apply Nat.mod_eq_of_lt
  rw [Nat.div_lt_iff_lt_mul (pw_pos k), Nat.mul_comm, ← pw_succ]; exact h
 rw [e] at hk
 rcases Nat.lt_or_ge a (2 ^ (64 * k)) with h1 | h1
 ·exact h1
 ·have := (Nat.le_div_iff_mul_le (pw_pos k)).2 (show 1 * 2 ^ (64 * k) ≤ a by omega)
  omega
theorem limb_bit (a i : Nat) : (limbN a (i / 64)).testBit (i % 64) = a.testBit i := by
 unfold limbN
 rw [B64, Nat.testBit_mod_two_pow, Nat.testBit_div_two_pow]
 rw [show i % 64 + 64 * (i / 64) = i by omega]
 simp [Nat.mod_lt i (show 0 < 64 by decide)]
theorem cat_word (x s : Nat) (hs : s ≤ 64) : (x / 2 ^ s) % 18446744073709551616 = (x / 18446744073709551616 % 18446744073709551616) * 2 ^ (64 - s) % 18446744073709551616 + x % 18446744073709551616 / 2 ^ s := by
 have hp : (18446744073709551616 : Nat) = 2 ^ s * 2 ^ (64 - s) := by rw [← Nat.pow_add, show s + (64 - s) = 64 by omega]
 have h1 : x = 18446744073709551616 * (x / 18446744073709551616) + x % 18446744073709551616 := (Nat.div_add_mod _ _).symm
 generalize hq : x / 18446744073709551616 = q at *
 generalize hr : x % 18446744073709551616 = r at *
 have hr1 : r < 18446744073709551616 := by rw [← hr]; exact Nat.mod_lt _ (by decide)
 have e1 : x / 2 ^ s = q * 2 ^ (64 - s) + r / 2 ^ s := by
  rw [h1, hp, Nat.mul_assoc, Nat.add_comm, Nat.add_mul_div_left _ _ (Nat.two_pow_pos s), Nat.mul_comm q]
  omega
 have e2 : r / 2 ^ s < 2 ^ (64 - s) := by
  rw [Nat.div_lt_iff_lt_mul (Nat.two_pow_pos s), Nat.mul_comm, ← hp]; exact hr1
 rw [e1, Nat.add_mod, Nat.mul_mod (q % 18446744073709551616), Nat.mod_mod, ← Nat.mul_mod]
 have e3 : r / 2 ^ s % 18446744073709551616 = r / 2 ^ s := Nat.mod_eq_of_lt (Nat.lt_of_lt_of_le e2 (by
  have := Nat.pow_le_pow_right (show 0 < 2 by decide) (show 64 - s ≤ 64 by omega)
  rw [B64]; exact this))
 rw [e3]
 have e4 : q * 2 ^ (64 - s) % 18446744073709551616 = 2 ^ (64 - s) * (q % 2 ^ s) := by
  rw [hp, Nat.mul_comm q, Nat.mul_comm (2 ^ s), Nat.mul_mod_mul_left]
 rw [e4]
 apply Nat.mod_eq_of_lt
 have e5 : q % 2 ^ s + 1 ≤ 2 ^ s := Nat.mod_lt _ (Nat.two_pow_pos s)
 have e6 : 2 ^ (64 - s) * (q % 2 ^ s + 1) ≤ 2 ^ (64 - s) * 2 ^ s := Nat.mul_le_mul_left _ e5
 rw [Nat.mul_comm (2 ^ (64 - s)) (2 ^ s), ← hp, Nat.mul_add] at e6
 omega
theorem Blk.store6 {T : TypeId} {w : World} {g : Nat} {cs : Array Value} (h : Blk T w g cs) (hs : cs.size = 6) (v0 v1 v2 v3 v4 v5 : Value) :
  Blk T ((((((w.setCell ⟨g, 0, none⟩ v0).setCell ⟨g, 1, none⟩ v1).setCell ⟨g, 2, none⟩ v2).setCell ⟨g, 3, none⟩ v3).setCell ⟨g, 4, none⟩ v4).setCell ⟨g, 5, none⟩ v5) g #[v0, v1, v2, v3, v4, v5] := by
 obtain ⟨l⟩ := cs
 match l, hs with
 | [c0, c1, c2, c3, c4, c5], _ =>
  exact (((((h.set 0 v0 rfl).set 1 v1 rfl).set 2 v2 rfl).set 3 v3 rfl).set 4 v4 rfl).set 5 v5 rfl
theorem Blk.six {T : TypeId} {w : World} {g a : Nat} (h : Blk T w g (limbs a)) :
  w.cell? ⟨g, 0, none⟩ = some (.int .u64 (limb a 0)) ∧ w.cell? ⟨g, 1, none⟩ = some (.int .u64 (limb a 1)) ∧ w.cell? ⟨g, 2, none⟩ = some (.int .u64 (limb a 2)) ∧
  w.cell? ⟨g, 3, none⟩ = some (.int .u64 (limb a 3)) ∧ w.cell? ⟨g, 4, none⟩ = some (.int .u64 (limb a 4)) ∧ w.cell? ⟨g, 5, none⟩ = some (.int .u64 (limb a 5)) :=
 ⟨h.cell 0 rfl, h.cell 1 rfl, h.cell 2 rfl, h.cell 3 rfl, h.cell 4 rfl, h.cell 5 rfl⟩
theorem Blk.six_free {T : TypeId} {w : World} {g : Nat} {cs : Array Value} (h : Blk T w g cs) :
  w.frozen? ⟨g, 0, none⟩ = false ∧ w.frozen? ⟨g, 1, none⟩ = false ∧ w.frozen? ⟨g, 2, none⟩ = false ∧ w.frozen? ⟨g, 3, none⟩ = false ∧ w.frozen? ⟨g, 4, none⟩ = false ∧ w.frozen? ⟨g, 5, none⟩ = false :=
 ⟨h.free 0, h.free 1, h.free 2, h.free 3, h.free 4, h.free 5⟩
theorem below_set6 {B : Nat} {w0 w : World} {g : Nat} (hb : Below B w0 w) (hg : B ≤ g) (v0 v1 v2 v3 v4 v5 : Value) :
  Below B w0 ((((((w.setCell ⟨g, 0, none⟩ v0).setCell ⟨g, 1, none⟩ v1).setCell ⟨g, 2, none⟩ v2).setCell ⟨g, 3, none⟩ v3).setCell ⟨g, 4, none⟩ v4).setCell ⟨g, 5, none⟩ v5) :=
 (((((hb.setCell hg _).setCell hg _).setCell hg _).setCell hg _).setCell hg _).setCell hg _
theorem run_index_arr {P : Program} {w : World} {t e : TypeId} {n i : Nat} {cs : Array Value} {v : Value} (k : IntKind) (ht : P.underlying t = some (.array n e))
  (ha : ∀ w, (isAgg e).run P w = .ok false w) (hz : ∀ w, (sizeOf e).run P w = .ok 1 w) (hi : i < n) (hv : cs[i]? = some v) :
  (Instr.index t (.agg cs) (.int k (i : Int))).run P w = .ok v w := by
 simp [Instr.index, asIntOf, run_underlying ht, part, ha, hz, hi, hv, go_sem]
theorem run_index_wide (w : World) (a k : Nat) (hk : k < 6) :
  (Instr.index 60 (.agg #[.int .u64 (limb a 0), .int .u64 (limb a 1), .int .u64 (limb a 2), .int .u64 (limb a 3), .int .u64 (limb a 4), .int .u64 (limb a 5)]) (.int .i64 (k : Int))).run Tryz.prog w = .ok (.int .u64 (limb a k)) w :=
 run_index_arr _ Tryz.underlying60 Tryz.isAgg25 Tryz.sizeOf25 hk (limbs_get a k hk)
theorem run_eqInt {P : Program} (w : World) (d : Nat) (e : TypeId) (k : IntKind) (he : P.underlying e = some (.int k)) (a b : Int) :
  (Op.equalIn (d + 1) e (.int k a) (.int k b)).run P w = .ok (a == b) w := by
 simp [Op.equalIn, run_underlying he]
theorem run_part {P : Program} (w : World) (e : TypeId) (ha : ∀ w, (isAgg e).run P w = .ok false w) (cs : Array Value) (i : Nat) (v : Value) (hv : cs[i]? = some v) :
  (part e cs i).run P w = .ok v w := by
 simp [part, ha, hv]
theorem eqItems_int {P : Program} (w : World) (d : Nat) (e : TypeId) (k : IntKind) (he : P.underlying e = some (.int k)) (ha : ∀ w, (isAgg e).run P w = .ok false w) (xs ys : Array Value) (i : Nat) (is : List Nat) (a b : Int) (r : Bool)
  (hx : xs[i]? = some (.int k a)) (hy : ys[i]? = some (.int k b)) (hr : (Op.eqItems (d + 1) e 1 xs ys is).run P w = .ok r w) : (Op.eqItems (d + 1) e 1 xs ys (i :: is)).run P w = .ok (a == b && r) w := by
 have px : (part e xs (i * 1)).run P w = .ok (.int k a) w := run_part w e ha xs _ _ (by simpa using hx)
 have py : (part e ys (i * 1)).run P w = .ok (.int k b) w := run_part w e ha ys _ _ (by simpa using hy)
 rw [Op.eqItems]
 simp only [Sem.run_bind, px, py, Result.andThen_ok, run_eqInt w d e k he a b]
 cases a == b
 ·simp
 ·simpa using hr
theorem run_equal6 (w : World) (x0 x1 x2 x3 x4 x5 y0 y1 y2 y3 y4 y5 : Int) :
  (Op.equalIn 10000 60 (.agg #[.int .u64 x0, .int .u64 x1, .int .u64 x2, .int .u64 x3, .int .u64 x4, .int .u64 x5]) (.agg #[.int .u64 y0, .int .u64 y1, .int .u64 y2, .int .u64 y3, .int .u64 y4, .int .u64 y5])).run Tryz.prog w =
   .ok (x0 == y0 && (x1 == y1 && (x2 == y2 && (x3 == y3 && (x4 == y4 && (x5 == y5 && true)))))) w := by
 obtain ⟨i, hi⟩ : ∃ i, Tryz.prog.info? 25 = some i := Option.isSome_iff_exists.1 (by kernel_rfl)
 rw [show (10000 : Nat) = 9999 + 1 from rfl, run_equalIn_array w 9999 _ _ Tryz.underlying60 hi]
 rw [show Tryz.prog.cellsOf 25 = 1 by kernel_rfl, show List.range 6 = [0, 1, 2, 3, 4, 5] from rfl, show (9999 : Nat) = 9998 + 1 from rfl]
 have hu := Tryz.underlying25
 have ha := Tryz.isAgg25
 refine eqItems_int w 9998 _ .u64 hu ha _ _ 0 _ x0 y0 _ rfl rfl ?_
 refine eqItems_int w 9998 _ .u64 hu ha _ _ 1 _ x1 y1 _ rfl rfl ?_
 refine eqItems_int w 9998 _ .u64 hu ha _ _ 2 _ x2 y2 _ rfl rfl ?_
 refine eqItems_int w 9998 _ .u64 hu ha _ _ 3 _ x3 y3 _ rfl rfl ?_
 refine eqItems_int w 9998 _ .u64 hu ha _ _ 4 _ x4 y4 _ rfl rfl ?_
 refine eqItems_int w 9998 _ .u64 hu ha _ _ 5 _ x5 y5 _ rfl rfl ?_
 simp [Op.eqItems]
theorem same6 (x y : Nat) (hx : x < top6) (hy : y < top6) :
  (limb x 0 == limb y 0 && (limb x 1 == limb y 1 && (limb x 2 == limb y 2 && (limb x 3 == limb y 3 && (limb x 4 == limb y 4 && (limb x 5 == limb y 5 && true)))))) = decide (x = y) := by
 rw [Bool.eq_iff_iff, decide_eq_true_iff]
 constructor
 ·intro h
  simp only [Bool.and_eq_true, beq_iff_eq] at h
  obtain ⟨h0, h1, h2, h3, h4, h5, _⟩ := h
  apply limbs_inj x y hx hy
  intro i hi
  have : i = 0 ∨ i = 1 ∨ i = 2 ∨ i = 3 ∨ i = 4 ∨ i = 5 := by omega
  unfold limb at *
  rcases this with rfl | rfl | rfl | rfl | rfl | rfl <;> omega
 ·intro h; subst h; simp
theorem run_equal_wide (w : World) (x y : Nat) (hx : x < top6) (hy : y < top6) : (Op.equalIn 10000 60 (.agg (limbs x)) (.agg (limbs y))).run Tryz.prog w = .ok (decide (x = y)) w := by
 unfold limbs; rw [run_equal6, same6 x y hx hy]
theorem zero_top : 0 < top6 := by unfold top6; exact pw_pos 6
theorem run_equal_zero (w : World) (x : Nat) (hx : x < top6) :
  (Op.equalIn 10000 60 (.agg #[.int .u64 (limb x 0), .int .u64 (limb x 1), .int .u64 (limb x 2), .int .u64 (limb x 3), .int .u64 (limb x 4), .int .u64 (limb x 5)]) (.agg #[.int .u64 0, .int .u64 0, .int .u64 0, .int .u64 0, .int .u64 0, .int .u64 0])).run Tryz.prog w = .ok (decide (x = 0)) w := by
 have := run_equal_wide w x 0 hx zero_top
 rw [limbs_zero] at this
 exact this
def lowN (a : Nat) : Nat := if a = 0 then 384 else Lib.ctzFrom (64 * 6) a
theorem odd_unique (c d m n : Nat) (h : 2 ^ c * (2 * m + 1) = 2 ^ d * (2 * n + 1)) : c = d := by
 rcases Nat.lt_trichotomy c d with hl | hl | hl
 ·have e : 2 ^ d = 2 ^ c * (2 * 2 ^ (d - c - 1)) := by
   rw [show d = c + (1 + (d - c - 1)) by omega, Nat.pow_add, Nat.pow_add]; simp
  rw [e, Nat.mul_assoc] at h
  have := Nat.eq_of_mul_eq_mul_left (Nat.two_pow_pos c) h
  rw [Nat.mul_assoc] at this
  omega
 ·exact hl
 ·have e : 2 ^ c = 2 ^ d * (2 * 2 ^ (c - d - 1)) := by
   rw [show c = d + (1 + (c - d - 1)) by omega, Nat.pow_add, Nat.pow_add]; simp
  rw [e, Nat.mul_assoc] at h
  have := Nat.eq_of_mul_eq_mul_left (Nat.two_pow_pos d) h
  rw [Nat.mul_assoc] at this
  omega
theorem lowN_spec (a : Nat) (h : a < top6) (h0 : a ≠ 0) : ∃ m, a = 2 ^ lowN a * (2 * m + 1) ∧ lowN a < 384 := by
 unfold lowN
 rw [if_neg h0]
 unfold top6 at h
 obtain ⟨m, e, hc⟩ := Lib.ctzFrom_spec (64 * 6) a (Nat.pos_of_ne_zero h0) h
 exact ⟨m, e, by omega⟩
theorem lowN_eq (a c m : Nat) (h : a < top6) (e : a = 2 ^ c * (2 * m + 1)) : lowN a = c := by
 have h0 : a ≠ 0 := by
  have := Nat.two_pow_pos c
  rw [e]; exact Nat.mul_ne_zero (by omega) (by omega)
 obtain ⟨m', e', _⟩ := lowN_spec a h h0
 exact odd_unique _ _ m' m (by rw [← e', ← e])
def LowZero (a k : Nat) : Prop := a % 2 ^ (64 * k) = 0
theorem lowZero_step (a k : Nat) (h : LowZero a k) (hz : limbN a k = 0) : LowZero a (k + 1) := by
 unfold LowZero at *
 rw [mod_low, h, hz]; simp
theorem low_word (a k : Nat) (hk : k < 6) (ha : a < top6) (h : LowZero a k) (hz : limbN a k ≠ 0) : lowN a = 64 * k + Lib.ctz 64 (limbN a k) := by
 unfold LowZero at h
 have hx := limbN_lt a k
 obtain ⟨m, e, hc⟩ := Lib.ctzFrom_spec 64 (limbN a k) (Nat.pos_of_ne_zero hz) hx
 have hct : Lib.ctz 64 (limbN a k) = Lib.ctzFrom 64 (limbN a k) := by unfold Lib.ctz; rw [if_neg hz]
 rw [hct]
 generalize Lib.ctzFrom 64 (limbN a k) = c at *
 have h1 : a = 2 ^ (64 * k) * (a / 2 ^ (64 * k)) := by have := Nat.div_add_mod a (2 ^ (64 * k)); omega
 have h2 : a / 2 ^ (64 * k) = 18446744073709551616 * (a / 2 ^ (64 * k) / 18446744073709551616) + limbN a k := (Nat.div_add_mod _ _).symm
 apply lowN_eq a _ (m + 2 ^ (63 - c) * (a / 2 ^ (64 * k) / 18446744073709551616)) ha
 generalize a / 2 ^ (64 * k) / 18446744073709551616 = q at *
 rw [h1, h2, e, Nat.pow_add, Nat.mul_assoc]
 congr 1
 have hp : (18446744073709551616 : Nat) = 2 ^ c * (2 * 2 ^ (63 - c)) := by
  have : (2 : Nat) * 2 ^ (63 - c) = 2 ^ (1 + (63 - c)) := by rw [Nat.pow_add]
  rw [this, ← Nat.pow_add, show c + (1 + (63 - c)) = 64 by omega]
 rw [hp, Nat.mul_assoc, ← Nat.mul_add]
 congr 1
 rw [Nat.mul_assoc]; omega
theorem lowW_limb (a i : Nat) : lowW (limb a i) = (Lib.ctz 64 (limbN a i) : Nat) := by
 unfold lowW limb; rw [Int.toNat_natCast]
theorem ctz_le (x : Nat) (h : x < 18446744073709551616) : Lib.ctz 64 x ≤ 64 := by
 unfold Lib.ctz
 by_cases hx : x = 0
 ·rw [if_pos hx]; omega
 ·rw [if_neg hx]
  obtain ⟨m, _, hc⟩ := Lib.ctzFrom_spec 64 x (Nat.pos_of_ne_zero hx) h
  omega
theorem wideLow_any (a : Nat) (w : World) (h : a < top6) (hT : Tab w) :
  CR_ 219 #[W a] w (.int .i64 (lowN a : Nat)) := by
 have sa := limbs_size a
 obtain ⟨c0, c1, c2, c3, c4, c5⟩ := (Blk.new (T := 60) w (limbs a)).six
 have HT := Lib.hid hT
 have HA := Lib.hid h
 clear hT h
 go_enter Tryz.func219, Tryz.ntmps219
 go_wp2_with fail
 go_loopw [6] (fun i wr => ∃ k : Nat, k ≤ 6 ∧ i = .int .i64 (k : Int) ∧ LowZero a k ∧ Below w.heap.size w wr) (fun i _ => 6 - (intOf i).toNat)
 case atStart => exact ⟨0, by omega, rfl, by unfold LowZero; exact Nat.mod_one a, (Below.refl _ _).alloc (Nat.le_refl _) _⟩
 case round =>
  obtain ⟨k, hk, rfl, hZ, hbel⟩ := hrel
  by_cases hlt : k < 6
  ·have ix := run_index_wide wr a k hlt
   by_cases hz : limbN a k = 0
   ·have z : limb a k = 0 := by unfold limb; rw [hz]; rfl
    rw [z] at ix
    have S := lowZero_step a k hZ hz
    clear hz z hZ
    go_wp2_with fail
    go_roundw
    case rel => exact ⟨k + 1, by omega, by go_num, S, hbel⟩
    case measure => simp [intOf]; omega
   ·have z : (limb a k != 0) = true := by unfold limb; simpa using hz
    have L := Lib.hid (low_word a k hlt HA.out hZ hz)
    have lw := lowW_limb a k
    have b0 : 0 ≤ lowW (limb a k) := by rw [lw]; omega
    have b1 : lowW (limb a k) ≤ 64 := by rw [lw]; have := ctz_le (limbN a k) (limbN_lt a k); omega
    have LW := Lib.hid lw
    clear hz lw hZ
    go_wp2_with fail
    refine (wordLow_any _ _ (limb_w a k) (HT.out.below hbel)).mono ?_
    rintro e w' ⟨rfl, rfl⟩
    go_wp2_with fail
    go_ret
    exact ⟨ret_int (by rw [LW.out, L.out]; omega), hbel⟩
  ·have : k = 6 := by omega
   subst this
   have Z := Lib.hid (show (384 : Int) = (lowN a : Nat) by
    have h0 : a = 0 := by
     have := hZ
     have h6 := HA.out
     unfold LowZero at this
     unfold top6 at h6
     rwa [Nat.mod_eq_of_lt h6] at this
    subst h0; rfl)
   clear hZ
   go_wp2_with fail
   go_ret
   exact ⟨ret_int Z.out, hbel⟩
theorem wideCount_any (n : Int) (w : World) :
  Calls Tryz.prog 179 #[.int .i64 n] w fun e w' => e = .returned (.int .i64 (min (max n 0) 384)) ∧ w = w' := by
 go_enter Tryz.func179, Tryz.ntmps179
 go_wp2
 go_ret
 exact ⟨rfl, rfl⟩
theorem lt6 {a : Nat} (h : a < top6) : Hid (a < 2 ^ (64 * 6)) := by
 unfold top6 at h
 exact Lib.hid h
theorem limb_zero_iff (a i : Nat) : (limb a i != 0) = (limbN a i != 0) := by
 unfold limb; rw [Bool.eq_iff_iff]; simp
theorem wideLen_any (a : Nat) (w : World) (h : a < top6) :
  CR_ 80 #[W a] w (.int .i64 (lenN a : Nat)) := by
 have sa := limbs_size a
 have T := Lib.hid h
 clear h
 go_enter Tryz.func80, Tryz.ntmps80
 go_wp2_with fail
 go_loopw [3] (fun i wr => ∃ k : Nat, k ≤ 6 ∧ i = .int .i64 ((k : Int) - 1) ∧ Hid (a < 2 ^ (64 * k)) ∧ Blk 60 wr w.heap.size (limbs a) ∧ Below w.heap.size w wr) (fun i _ => (intOf i + 1).toNat)
 case atStart => exact ⟨6, by omega, rfl, lt6 T.out, Blk.new w _, (Below.refl _ _).alloc (Nat.le_refl _) _⟩
 case round =>
  obtain ⟨k, hk, rfl, ha, hb, hbel⟩ := hrel
  cases k with
  | zero =>
   have Z := Lib.hid (show (0 : Int) = (lenN a : Nat) by
    have : a = 0 := by have := ha.out; simp at this; exact this
    subst this; rfl)
   go_wp2_with fail
   go_ret
   exact ⟨ret_int Z.out, hbel⟩
  | succ j =>
   have cj := hb.cell j (limbs_get a j (by omega))
   rw [show ((j + 1 : Nat) : Int) - 1 = (j : Int) by omega]
   by_cases hz : limbN a j = 0
   ·have t := top_zero a j ha.out hz
    have z : limb a j = 0 := by unfold limb; rw [hz]; rfl
    rw [z] at cj
    have HA := Lib.hid t
    clear t ha hz z
    go_wp2_with fail
    go_roundw
    case rel => exact ⟨j, by omega, rfl, HA, hb, hbel⟩
    case measure => simp [intOf]
   ·have l := lenN_top a j ha.out hz
    have L := Lib.hid l
    have z : (limb a j != 0) = true := by rw [limb_zero_iff]; simpa using hz
    have b64 : (lenN (limbN a j) : Int) ≤ 64 := by
     have := (lenN_le (limbN a j) 64).2 (limbN_lt a j)
     omega
    have lw := lenW_limb a j
    have b0 : 0 ≤ lenW (limb a j) := by rw [lw]; omega
    have b1 : lenW (limb a j) ≤ 64 := by rw [lw]; exact b64
    have LW := Lib.hid lw
    clear l ha hz b64 lw
    go_wp2_with fail
    refine (wordLen_any _ _ (limb_w a j)).mono ?_
    rintro e w' ⟨rfl, rfl⟩
    go_wp2_with fail
    go_ret
    exact ⟨ret_int (by rw [LW.out, L.out]; omega), hbel⟩
theorem limbs_word (x : Nat) (h : x < 18446744073709551616) : limbs x = #[.int .u64 (x : Nat), .int .u64 0, .int .u64 0, .int .u64 0, .int .u64 0, .int .u64 0] := by
 have e0 : ∀ i, limb x i = if i = 0 then (x : Int) else 0 := by
  intro i
  have := limbN_put 0 x 0 i (pw_pos 0) h
  rw [Nat.zero_add, show x * 2 ^ (64 * 0) = x by simp] at this
  unfold limb
  rw [this]
  split
  ·rfl
  ·unfold limbN; rw [Nat.zero_div]; rfl
 unfold limbs
 simp only [e0]; rfl
theorem wideOf_any (x : Nat) (w : World) (h : x < 18446744073709551616) :
  CR_ 47 #[.int .u64 x] w (W x) := by
 have E := Lib.hid (limbs_word x h)
 clear h
 go_enter Tryz.func47, Tryz.ntmps47
 go_wp2
 refine bodyPost_ret (v := .agg #[.int .u64 (x : Nat), .int .u64 0, .int .u64 0, .int .u64 0, .int .u64 0, .int .u64 0]) (by simp [results, Tryz.results47, go_sem]) rfl ⟨by rw [W, E.out], (Below.refl _ _).alloc (Nat.le_refl _) _⟩
theorem limbs_bits (b : Nat) (h : b < 2 ^ (64 * 2)) : limbs b = #[.int .u64 (limb b 0), .int .u64 (limb b 1), .int .u64 0, .int .u64 0, .int .u64 0, .int .u64 0] := by
 have z : ∀ i, 2 ≤ i → limb b i = 0 := by
  intro i hi
  unfold limb limbN
  rw [Nat.div_eq_of_lt (Nat.lt_of_lt_of_le h (Nat.pow_le_pow_right (by decide) (by omega)))]; rfl
 unfold limbs
 rw [z 2 (by decide), z 3 (by decide), z 4 (by decide), z 5 (by decide)]
theorem wideOfBits_any (b : Nat) (w : World) (h : b < 2 ^ (64 * 2)) :
  CR_ 222 #[BV b] w (W b) := by
 have E := Lib.hid (limbs_bits b h)
 clear h
 go_enter Tryz.func222, Tryz.ntmps222
 go_wp2
 refine bodyPost_ret (v := .agg #[.int .u64 (limb b 0), .int .u64 (limb b 1), .int .u64 0, .int .u64 0, .int .u64 0, .int .u64 0]) (by simp [results, Tryz.results222, go_sem]) rfl ⟨by rw [W, E.out], ?_⟩
 exact ((Below.refl _ _).alloc (Nat.le_refl _) _).alloc (by simp) _
theorem wideToBits_any (b : Nat) (w : World) (h : b < 2 ^ (64 * 2)) :
  CR_ 146 #[W b] w (.tuple #[BV b, .bool true]) := by
 rw [W, limbs_bits b h]
 clear h
 have z : (Go.bits .or .u64 (Go.bits .or .u64 (Go.bits .or .u64 0 0) 0) 0 != 0) = false := by decide +kernel
 go_enter Tryz.func146, Tryz.ntmps146
 go_wp2
 refine bodyPost_ret (v := .tuple #[BV b, .bool true]) (by simp [results, Tryz.results146, go_sem]) rfl ⟨rfl, ?_⟩
 exact ((Below.refl _ _).alloc (Nat.le_refl _) _).alloc (by simp) _
theorem bit_limb (a i : Nat) : (Go.bits .and .u64 (limb a (i / 64) / 2 ^ (i % 64)) 1 == 1) = a.testBit i := by
 have q0 : limb a (i / 64) / 2 ^ (i % 64) = ((limbN a (i / 64) / 2 ^ (i % 64) : Nat) : Int) := by unfold limb; simp
 have q1 : limbN a (i / 64) / 2 ^ (i % 64) ≤ limbN a (i / 64) := Nat.div_le_self _ _
 have q2 := limbN_lt a (i / 64)
 rw [q0, show (1 : Int) = ((1 : Nat) : Int) from rfl, u64_and_nat _ _ (by omega) (by decide), nat_mask1, ← limb_bit, Nat.testBit_eq_decide_div_mod_eq]
 generalize limbN a (i / 64) / 2 ^ (i % 64) = z
 rw [Bool.eq_iff_iff]; simp; omega
set_option maxHeartbeats 800000 in
theorem wideBit_in (a i : Nat) (w : World) (h : i < 384) :
  CR_ 188 #[W a, .int .i64 i] w (.bool (a.testBit i)) := by
 have sa := limbs_size a
 have cj : ∀ w : World, Blk 60 (w.alloc (.cells (limbs a) 60)) w.heap.size (limbs a) := fun w => Blk.new w _
 have c := (cj w).cell (i / 64) (limbs_get a (i / 64) (by omega))
 have R := Lib.hid (bit_limb a i)
 obtain ⟨j, hj⟩ : ∃ j, i / 64 = j := ⟨_, rfl⟩
 obtain ⟨s, hs⟩ : ∃ s, i % 64 = s := ⟨_, rfl⟩
 rw [hj] at c R
 rw [hs] at R
 have hj' : (i : Int) / 64 = (j : Int) := by omega
 have hs' : (i : Int) % 64 = (s : Int) := by omega
 have j6 : j < 6 := by omega
 have s64 : s < 64 := by omega
 rw [← R.out]
 clear cj R
 go_enter Tryz.func188, Tryz.ntmps188
 go_wp2
 go_ret
 exact ⟨rfl, (Below.refl _ _).alloc (Nat.le_refl _) _⟩
theorem wideBit_out (a : Nat) (i : Int) (w : World) (h : i < 0 ∨ 384 ≤ i) :
  CR_ 188 #[W a, .int .i64 i] w (.bool false) := by
 have sa := limbs_size a
 rcases h with h | h
 ·go_enter Tryz.func188, Tryz.ntmps188
  go_wp2
  go_ret
  exact ⟨rfl, (Below.refl _ _).alloc (Nat.le_refl _) _⟩
 ·have h0 : 0 ≤ i := by omega
  go_enter Tryz.func188, Tryz.ntmps188
  go_wp2
  go_ret
  exact ⟨rfl, (Below.refl _ _).alloc (Nat.le_refl _) _⟩
def bitI (a : Nat) (i : Int) : Bool := decide (0 ≤ i) && (decide (i < 384) && a.testBit i.toNat)
theorem wideBit_any (a : Nat) (i : Int) (w : World) :
  CR_ 188 #[W a, .int .i64 i] w (.bool (bitI a i)) := by
 by_cases h : i < 0 ∨ 384 ≤ i
 ·rw [show bitI a i = false by unfold bitI; rcases h with h | h <;> simp <;> omega]
  exact wideBit_out a i w h
 ·obtain ⟨n, rfl⟩ := Int.eq_ofNat_of_zero_le (show 0 ≤ i by omega)
  rw [show bitI a (n : Int) = a.testBit n by unfold bitI; simp; omega]
  exact wideBit_in a n w (by omega)
theorem limbN_right (a q s i : Nat) (hs : s ≤ 64) : limbN (a / 2 ^ (64 * q + s)) i = limbN a (i + q + 1) * 2 ^ (64 - s) % 18446744073709551616 + limbN a (i + q) / 2 ^ s := by
 have e : a / 2 ^ (64 * q + s) / 2 ^ (64 * i) = a / 2 ^ (64 * (i + q)) / 2 ^ s := by
  rw [Nat.div_div_eq_div_mul, Nat.div_div_eq_div_mul, ← Nat.pow_add, ← Nat.pow_add]
  congr 2; omega
 unfold limbN
 rw [e, cat_word _ s hs, Nat.div_div_eq_div_mul, show 64 * (i + q + 1) = 64 * (i + q) + 64 by omega, Nat.pow_add, ← B64]
theorem pw_mono (j i : Nat) (h : j ≤ i) : 2 ^ (64 * j) ≤ 2 ^ (64 * i) := Nat.pow_le_pow_right (by decide) (Nat.mul_le_mul_left 64 h)
theorem high_zero (a i : Nat) (h : a < top6) (hi : 6 ≤ i) : limbN a i = 0 := by
 unfold top6 at h
 unfold limbN
 rw [Nat.div_eq_of_lt (Nat.lt_of_lt_of_le h (pw_mono 6 i hi))]
theorem limb_shr (a i s : Nat) : limb a i / 2 ^ s = ((limbN a i / 2 ^ s : Nat) : Int) := by unfold limb; simp
theorem right_or (a q s i : Nat) (hs : s < 64) (h : i + q < 5) :
  Go.bits .or .u64 (limb a (i + q) / 2 ^ s) (IntKind.u64.wrap (limb a (i + q + 1) * 2 ^ (64 - s))) = limb (a / 2 ^ (64 * q + s)) i := by
 have h1 : IntKind.u64.wrap (limb a (i + q + 1) * 2 ^ (64 - s)) = ((limbN a (i + q + 1) * 2 ^ (64 - s) % 18446744073709551616 : Nat) : Int) := by
  rw [IntKind.wrap_u64]; unfold limb; simp
 have h2 : limbN a (i + q) / 2 ^ s < 2 ^ (64 - s) := by
  rw [Nat.div_lt_iff_lt_mul (Nat.two_pow_pos s), ← Nat.pow_add, show 64 - s + s = 64 by omega, ← B64]; exact limbN_lt _ _
 have h3 : limbN a (i + q) / 2 ^ s < 18446744073709551616 := Nat.lt_of_le_of_lt (Nat.div_le_self _ _) (limbN_lt _ _)
 have h4 : limbN a (i + q + 1) * 2 ^ (64 - s) % 18446744073709551616 < 18446744073709551616 := Nat.mod_lt _ (by decide)
 have h5 : limbN a (i + q + 1) * 2 ^ (64 - s) % 18446744073709551616 % 2 ^ (64 - s) = 0 := by
  rw [show (18446744073709551616 : Nat) = 2 ^ (64 - s) * 2 ^ s by rw [← Nat.pow_add, show 64 - s + s = 64 by omega], Nat.mod_mul_right_mod, Nat.mul_mod_left]
 rw [limb_shr, h1, u64_or_nat _ _ h3 h4, Nat.or_comm, nat_join (64 - s) _ _ h5 h2]
 unfold limb
 rw [limbN_right a q s i (by omega)]
theorem right_last (a q s i : Nat) (hs : s < 64) (ha : a < top6) (h : i + q = 5) : limb a (i + q) / 2 ^ s = limb (a / 2 ^ (64 * q + s)) i := by
 rw [limb_shr]
 unfold limb
 rw [limbN_right a q s i (by omega), high_zero a (i + q + 1) ha (by omega)]
 simp
theorem right_zero (a q s i : Nat) (hs : s < 64) (ha : a < top6) (h : 6 ≤ i + q) : limb (a / 2 ^ (64 * q + s)) i = 0 := by
 unfold limb
 rw [limbN_right a q s i (by omega), high_zero a (i + q + 1) ha (by omega), high_zero a (i + q) ha h]
 simp
def lostR (a n : Nat) : Bool := !decide (a = 0) && decide (lowN a < n)
theorem limbs_fill0 (f : Nat → Value) (k : Nat) : (fillTo (limbs 0) f k).size = 6 := by rw [fillTo_size]; rfl
theorem set2 (cs : Array Value) (k : Nat) (v : Value) (x y : Int) (h : x = y) : (cs.setIfInBounds k v).setIfInBounds k (.int .u64 x) = cs.setIfInBounds k (.int .u64 y) := by
 rw [h, Array.setIfInBounds_setIfInBounds]
theorem fill_rest (a q s k : Nat) (hs : s < 64) (ha : a < top6) (hk : k ≤ 6) (h : 6 ≤ k + q) :
  fillTo (limbs 0) (fun i => .int .u64 (limb (a / 2 ^ (64 * q + s)) i)) k = limbs (a / 2 ^ (64 * q + s)) := by
 apply Array.ext_getElem?
 intro j
 by_cases hj : j < 6
 ·rw [limbs_get _ j hj]
  by_cases hjk : j < k
  ·exact fillTo_lo _ _ k j hjk (by rw [limbs_size]; exact hj)
  ·rw [fillTo_hi _ _ k j (by omega), limbs_get 0 j hj, right_zero a q s j hs ha (by omega)]
   unfold limb limbN; rw [Nat.zero_div]; rfl
 ·rw [Array.getElem?_eq_none (by rw [fillTo_size, limbs_size]; omega), Array.getElem?_eq_none (by rw [limbs_size]; omega)]
set_option maxHeartbeats 6400000 in
theorem wideRight_q (a n q s : Nat) (x : Int) (w : World) (ha : a < top6) (hc : min (max x 0) 384 = (n : Int)) (hq : (n : Int) / 64 = (q : Int)) (hs : (n : Int) % 64 = (s : Int)) (hT : Tab w) :
  CR_ 180 #[W a, .int .i64 x] w (.tuple #[W (a / 2 ^ (64 * q + s)), .bool (lostR a n)]) := by
 have sa := limbs_size a
 obtain ⟨z, hz⟩ : ∃ z, decide (a = 0) = z := ⟨_, rfl⟩
 have eq0 := fun w => (run_equal_zero w a ha).trans (by rw [hz])
 have hn : n ≤ 384 := by omega
 have s64 : s < 64 := by omega
 have q6 : q ≤ 6 := by omega
 have HA := Lib.hid ha
 have HT := Lib.hid hT
 obtain ⟨l, l1⟩ : ∃ l, decide (lowN a < n) = l := ⟨_, rfl⟩
 have l2 : decide ((lowN a : Int) < (n : Int)) = l := by rw [← l1, Bool.eq_iff_iff, decide_eq_true_iff, decide_eq_true_iff]; omega
 have HL := Lib.hid (show lostR a n = (!z && l) by unfold lostR; rw [hz, l1])
 clear ha hT hz
 cases z
 ·go_enter Tryz.func180, Tryz.ntmps180
  go_wp2_with fail
  refine (wideCount_any _ _).mono ?_
  rw [hc]
  rintro e w' ⟨rfl, rfl⟩
  go_wp2_with fail
  refine (wideLow_any a _ HA.out (HT.out.below (((Below.refl _ _).alloc (Nat.le_refl _) _).alloc (by simp) _))).mono ?_
  rintro e w1 ⟨rfl, hb1⟩
  go_wp2_with fail

  simp only [hs]
  go_loopw [8] (fun i wr => ∃ k : Nat, k ≤ 6 ∧ i = .int .i64 k ∧ Blk 60 wr w.heap.size (limbs a) ∧
   Blk 60 wr (w.heap.size + 1) (fillTo (limbs 0) (fun i => .int .u64 (limb (a / 2 ^ (64 * q + s)) i)) k) ∧ Below w.heap.size w wr) (fun i _ => 6 - (intOf i).toNat)
  case atStart =>
   refine ⟨0, by omega, rfl, ?_, ?_, ?_⟩
   ·have := ((Blk.new (T := 60) w (limbs a)).alloc (.cells #[.int .u64 0, .int .u64 0, .int .u64 0, .int .u64 0, .int .u64 0, .int .u64 0] 60)).below hb1 (by simp <;> omega)
    simpa using this
   ·rw [fillTo, limbs_zero]
    have := (Blk.new (T := 60) (w.alloc (.cells (limbs a) 60)) #[.int .u64 0, .int .u64 0, .int .u64 0, .int .u64 0, .int .u64 0, .int .u64 0]).below hb1 (by simp)
    simpa using this
   ·exact (((Below.refl _ _).alloc (Nat.le_refl _) _).alloc (by simp) _).trans (hb1.mono (by simp <;> omega))
  case round =>
   obtain ⟨k, hk, rfl, ha, hs', hbel⟩ := hrel
   by_cases hlt : k + q < 6
   ·have ca := ha.cell (k + q) (limbs_get a (k + q) hlt)
    have fb := hs'.free k
    have cb0 := hs'.cell k ((fillTo_hi _ _ k k (Nat.le_refl _)).trans (limbs_get 0 k (by omega)))
    by_cases hl5 : k + q < 5
    ·have b2 := hs'.set k (.int .u64 (limb a (k + q) / 2 ^ s)) rfl
     have cb := b2.cell k (v := .int .u64 (limb a (k + q) / 2 ^ s)) (by rw [Array.getElem?_setIfInBounds, if_pos rfl, if_pos (by rw [limbs_fill0]; omega)])
     have fb2 := b2.free k
     have ca2 := (ha.other ⟨w.heap.size + 1, k, none⟩ (.int .u64 (limb a (k + q) / 2 ^ s)) (by simp)).cell (k + q + 1) (limbs_get a (k + q + 1) (by omega))
     have i1 : (k : Int) + (q : Int) + 1 < 6 := by omega
     have i0 : (0 : Int) ≤ (k : Int) + (q : Int) + 1 := by omega
     have iw : IntKind.i64.wrap ((k : Int) + (q : Int) + 1) = (k : Int) + (q : Int) + 1 := IntWalk.i64_in _ (by omega)
     have iv : IntKind.i64.wrap ((k : Int) + (q : Int)) = (k : Int) + (q : Int) := IntWalk.i64_in _ (by omega)
     have it : ((k : Int) + (q : Int) + 1).toNat = k + q + 1 := by omega
     clear b2
     go_wp2_with fail
     go_region_with (fail)
     all_goals go_wp2
     all_goals
      go_roundw
      case rel => exact ⟨k + 1, by omega, by go_num, ((ha.other _ _ (by simp)).other _ _ (by simp)).drew, ((hs'.set k _ rfl).set k _ (set2 _ _ _ _ _ (right_or a q s k s64 hl5))).drew, ((hbel.setCell (by simp) _).setCell (by simp) _).drew⟩
      case measure => simp [intOf]; omega
    ·have b5 : ¬ (k : Int) + (q : Int) < 5 := by omega
     go_wp2_with fail
     go_roundw
     case rel => exact ⟨k + 1, by omega, by go_num, ha.other _ _ (by simp), hs'.set k _ (by rw [right_last a q s k s64 HA.out (by omega)]; rfl), hbel.setCell (by simp) _⟩
     case measure => simp [intOf]; omega
   ·have F := fill_rest a q s k s64 HA.out hk (by omega)
    rw [F] at hs'
    obtain ⟨c0, c1, c2, c3, c4, c5⟩ := hs'.six
    obtain ⟨f0, f1, f2, f3, f4, f5⟩ := hs'.six_free
    clear F
    go_wp2_with fail
    rw [hs'.keep 0 _ (limbs_get _ 0 (by decide)), hs'.keep 1 _ (limbs_get _ 1 (by decide)), hs'.keep 2 _ (limbs_get _ 2 (by decide)), hs'.keep 3 _ (limbs_get _ 3 (by decide)), hs'.keep 4 _ (limbs_get _ 4 (by decide)), hs'.keep 5 _ (limbs_get _ 5 (by decide))]
    exact bodyPost_ret (v := .tuple #[W (a / 2 ^ (64 * q + s)), .bool _]) (by simp [results, Tryz.results180, go_sem, c0, c1, c2, c3, c4, c5, limbs]; rfl) rfl ⟨by rw [HL.out]; rfl, hbel⟩

 ·go_enter Tryz.func180, Tryz.ntmps180
  go_wp2_with fail
  refine (wideCount_any _ _).mono ?_
  rw [hc]
  rintro e w' ⟨rfl, rfl⟩
  go_wp2_with fail

  simp only [hs]
  go_loopw [8] (fun i wr => ∃ k : Nat, k ≤ 6 ∧ i = .int .i64 k ∧ Blk 60 wr w.heap.size (limbs a) ∧
   Blk 60 wr (w.heap.size + 1) (fillTo (limbs 0) (fun i => .int .u64 (limb (a / 2 ^ (64 * q + s)) i)) k) ∧ Below w.heap.size w wr) (fun i _ => 6 - (intOf i).toNat)
  case atStart =>
   refine ⟨0, by omega, rfl, ?_, ?_, ?_⟩
   ·have := (Blk.new (T := 60) w (limbs a)).alloc (.cells #[.int .u64 0, .int .u64 0, .int .u64 0, .int .u64 0, .int .u64 0, .int .u64 0] 60)
    simpa using this
   ·rw [fillTo, limbs_zero]
    have := Blk.new (T := 60) (w.alloc (.cells (limbs a) 60)) #[.int .u64 0, .int .u64 0, .int .u64 0, .int .u64 0, .int .u64 0, .int .u64 0]
    simpa using this
   ·exact ((Below.refl _ _).alloc (Nat.le_refl _) _).alloc (by simp) _
  case round =>
   obtain ⟨k, hk, rfl, ha, hs', hbel⟩ := hrel
   by_cases hlt : k + q < 6
   ·have ca := ha.cell (k + q) (limbs_get a (k + q) hlt)
    have fb := hs'.free k
    have cb0 := hs'.cell k ((fillTo_hi _ _ k k (Nat.le_refl _)).trans (limbs_get 0 k (by omega)))
    by_cases hl5 : k + q < 5
    ·have b2 := hs'.set k (.int .u64 (limb a (k + q) / 2 ^ s)) rfl
     have cb := b2.cell k (v := .int .u64 (limb a (k + q) / 2 ^ s)) (by rw [Array.getElem?_setIfInBounds, if_pos rfl, if_pos (by rw [limbs_fill0]; omega)])
     have fb2 := b2.free k
     have ca2 := (ha.other ⟨w.heap.size + 1, k, none⟩ (.int .u64 (limb a (k + q) / 2 ^ s)) (by simp)).cell (k + q + 1) (limbs_get a (k + q + 1) (by omega))
     have i1 : (k : Int) + (q : Int) + 1 < 6 := by omega
     have i0 : (0 : Int) ≤ (k : Int) + (q : Int) + 1 := by omega
     have iw : IntKind.i64.wrap ((k : Int) + (q : Int) + 1) = (k : Int) + (q : Int) + 1 := IntWalk.i64_in _ (by omega)
     have iv : IntKind.i64.wrap ((k : Int) + (q : Int)) = (k : Int) + (q : Int) := IntWalk.i64_in _ (by omega)
     have it : ((k : Int) + (q : Int) + 1).toNat = k + q + 1 := by omega
     clear b2
     go_wp2_with fail
     go_region_with (fail)
     all_goals go_wp2
     all_goals
      go_roundw
      case rel => exact ⟨k + 1, by omega, by go_num, ((ha.other _ _ (by simp)).other _ _ (by simp)).drew, ((hs'.set k _ rfl).set k _ (set2 _ _ _ _ _ (right_or a q s k s64 hl5))).drew, ((hbel.setCell (by simp) _).setCell (by simp) _).drew⟩
      case measure => simp [intOf]; omega
    ·have b5 : ¬ (k : Int) + (q : Int) < 5 := by omega
     go_wp2_with fail
     go_roundw
     case rel => exact ⟨k + 1, by omega, by go_num, ha.other _ _ (by simp), hs'.set k _ (by rw [right_last a q s k s64 HA.out (by omega)]; rfl), hbel.setCell (by simp) _⟩
     case measure => simp [intOf]; omega
   ·have F := fill_rest a q s k s64 HA.out hk (by omega)
    rw [F] at hs'
    obtain ⟨c0, c1, c2, c3, c4, c5⟩ := hs'.six
    obtain ⟨f0, f1, f2, f3, f4, f5⟩ := hs'.six_free
    clear F
    go_wp2_with fail
    rw [hs'.keep 0 _ (limbs_get _ 0 (by decide)), hs'.keep 1 _ (limbs_get _ 1 (by decide)), hs'.keep 2 _ (limbs_get _ 2 (by decide)), hs'.keep 3 _ (limbs_get _ 3 (by decide)), hs'.keep 4 _ (limbs_get _ 4 (by decide)), hs'.keep 5 _ (limbs_get _ 5 (by decide))]
    exact bodyPost_ret (v := .tuple #[W (a / 2 ^ (64 * q + s)), .bool _]) (by simp [results, Tryz.results180, go_sem, c0, c1, c2, c3, c4, c5, limbs]; rfl) rfl ⟨by rw [HL.out]; rfl, hbel⟩
theorem limbN_left0 (a q s : Nat) : limbN (a * 2 ^ (64 * q + s)) q = limbN a 0 * 2 ^ s % 18446744073709551616 := by
 unfold limbN
 rw [Nat.pow_add, ← Nat.mul_assoc, Nat.mul_right_comm, Nat.mul_div_cancel _ (pw_pos q), Nat.mul_zero, Nat.pow_zero, Nat.div_one]
 rw [Nat.mod_mul_mod]
theorem limbN_left (a q s j : Nat) (hs : s ≤ 64) : limbN (a * 2 ^ (64 * q + s)) (q + j + 1) = limbN a (j + 1) * 2 ^ s % 18446744073709551616 + limbN a j / 2 ^ (64 - s) := by
 have e : a * 2 ^ (64 * q + s) / 2 ^ (64 * (q + j + 1)) = a / 2 ^ (64 * j + (64 - s)) := by
  rw [show 64 * (q + j + 1) = (64 * q + s) + (64 * j + (64 - s)) by omega, Nat.pow_add (2) (64 * q + s), ← Nat.div_div_eq_div_mul, Nat.mul_div_cancel _ (Nat.two_pow_pos _)]
 have r := limbN_right a j (64 - s) 0 (by omega)
 rw [Nat.zero_add, show 64 - (64 - s) = s by omega] at r
 rw [← r]
 unfold limbN
 rw [e, Nat.mul_zero, Nat.pow_zero, Nat.div_one]
theorem limbN_leftz (a q s i : Nat) (h : i < q) : limbN (a * 2 ^ (64 * q + s)) i = 0 := by
 unfold limbN
 rw [show 64 * q + s = 64 * i + (64 + (64 * (q - i - 1) + s)) by omega, Nat.pow_add, Nat.pow_add 2 64, Nat.mul_left_comm, Nat.mul_div_cancel_left _ (pw_pos i), Nat.mul_left_comm, ← B64, Nat.mul_mod_right]
theorem limb_shl (a i s : Nat) : IntKind.u64.wrap (limb a i * 2 ^ s) = ((limbN a i * 2 ^ s % 18446744073709551616 : Nat) : Int) := by
 rw [IntKind.wrap_u64]; unfold limb; simp
theorem left_or (a q s j : Nat) (hs : s < 64) :
  Go.bits .or .u64 (IntKind.u64.wrap (limb a (j + 1) * 2 ^ s)) (limb a j / 2 ^ (64 - s)) = limb (a * 2 ^ (64 * q + s)) (q + j + 1) := by
 have h2 : limbN a j / 2 ^ (64 - s) < 2 ^ s := by
  rw [Nat.div_lt_iff_lt_mul (Nat.two_pow_pos _), ← Nat.pow_add, show s + (64 - s) = 64 by omega, ← B64]; exact limbN_lt _ _
 have h3 : limbN a j / 2 ^ (64 - s) < 18446744073709551616 := Nat.lt_of_le_of_lt (Nat.div_le_self _ _) (limbN_lt _ _)
 have h4 : limbN a (j + 1) * 2 ^ s % 18446744073709551616 < 18446744073709551616 := Nat.mod_lt _ (by decide)
 have h5 : limbN a (j + 1) * 2 ^ s % 18446744073709551616 % 2 ^ s = 0 := by
  rw [show (18446744073709551616 : Nat) = 2 ^ s * 2 ^ (64 - s) by rw [← Nat.pow_add, show s + (64 - s) = 64 by omega], Nat.mod_mul_right_mod, Nat.mul_mod_left]
 rw [limb_shr, limb_shl, u64_or_nat _ _ h4 h3, nat_join s _ _ h5 h2]
 unfold limb
 rw [limbN_left a q s j (by omega)]
theorem left_first (a q s : Nat) : IntKind.u64.wrap (limb a 0 * 2 ^ s) = limb (a * 2 ^ (64 * q + s)) q := by
 rw [limb_shl]; unfold limb; rw [limbN_left0]
def hiB (x p : Nat) : Array Value := #[.int .u64 (if p ≤ 0 then limb x 0 else 0), .int .u64 (if p ≤ 1 then limb x 1 else 0), .int .u64 (if p ≤ 2 then limb x 2 else 0), .int .u64 (if p ≤ 3 then limb x 3 else 0), .int .u64 (if p ≤ 4 then limb x 4 else 0), .int .u64 (if p ≤ 5 then limb x 5 else 0)]
theorem hiB_top (x : Nat) : hiB x 6 = #[.int .u64 0, .int .u64 0, .int .u64 0, .int .u64 0, .int .u64 0, .int .u64 0] := by unfold hiB; simp
theorem hiB_size (x p : Nat) : (hiB x p).size = 6 := rfl
theorem hiB_get (x p i : Nat) (hi : i < 6) (h : i < p) : (hiB x p)[i]? = some (.int .u64 0) := by
 have : i = 0 ∨ i = 1 ∨ i = 2 ∨ i = 3 ∨ i = 4 ∨ i = 5 := by omega
 rcases this with rfl | rfl | rfl | rfl | rfl | rfl <;> simp [hiB] <;> omega
theorem hiB_set (x p : Nat) (h : p < 6) (v : Int) (hv : v = limb x p) : (hiB x (p + 1)).setIfInBounds p (.int .u64 v) = hiB x p := by
 subst hv
 have : p = 0 ∨ p = 1 ∨ p = 2 ∨ p = 3 ∨ p = 4 ∨ p = 5 := by omega
 rcases this with rfl | rfl | rfl | rfl | rfl | rfl <;> simp [hiB]
theorem hiB_set2 (x p : Nat) (h : p < 6) (u : Value) (v : Int) (hv : v = limb x p) : ((hiB x (p + 1)).setIfInBounds p u).setIfInBounds p (.int .u64 v) = hiB x p := by
 rw [Array.setIfInBounds_setIfInBounds]; exact hiB_set x p h v hv
theorem hiB_done (x p : Nat) (h : ∀ i, i < p → limb x i = 0) : hiB x p = limbs x := by
 have e : ∀ i, (if p ≤ i then limb x i else 0) = limb x i := by
  intro i; split
  ·rfl
  ·rw [h i (by omega)]
 unfold hiB limbs
 rw [e, e, e, e, e, e]
def lostL (a n : Nat) : Bool := decide (384 < lenN a + n) && !decide (a = 0)
set_option maxHeartbeats 6400000 in
theorem wideLeft_q (a n q s : Nat) (x : Int) (w : World) (ha : a < top6) (hc : min (max x 0) 384 = (n : Int)) (hq : (n : Int) / 64 = (q : Int)) (hs : (n : Int) % 64 = (s : Int)) :
  CR_ 101 #[W a, .int .i64 x] w (.tuple #[W (a * 2 ^ (64 * q + s)), .bool (lostL a n)]) := by
 have sa := limbs_size a
 obtain ⟨z, hz⟩ : ∃ z, decide (a = 0) = z := ⟨_, rfl⟩
 have eq0 := fun w => (run_equal_zero w a ha).trans (by rw [hz])
 have hn : n ≤ 384 := by omega
 have s64 : s < 64 := by omega
 have q6 : q ≤ 6 := by omega
 have HA := Lib.hid ha
 obtain ⟨l, l1⟩ : ∃ l, decide (384 < lenN a + n) = l := ⟨_, rfl⟩
 have l2 : decide ((384 : Int) < (lenN a : Int) + (n : Int)) = l := by rw [← l1, Bool.eq_iff_iff, decide_eq_true_iff, decide_eq_true_iff]; omega
 have ln : (lenN a : Int) ≤ 384 := by
  have := (lenN_le a (64 * 6)).2 ha
  omega
 have HL := Lib.hid (show lostL a n = (l && !z) by unfold lostL; rw [hz, l1])
 clear ha hz
 cases l
 ·go_enter Tryz.func101, Tryz.ntmps101
  go_wp2_with fail
  refine (wideCount_any _ _).mono ?_
  rw [hc]
  rintro e w' ⟨rfl, rfl⟩
  go_wp2_with fail
  refine (wideLen_any a _ HA.out).mono ?_
  rintro e w1 ⟨rfl, hb1⟩
  have ba := ((Blk.new (T := 60) w (limbs a)).alloc (.cells #[.int .u64 0, .int .u64 0, .int .u64 0, .int .u64 0, .int .u64 0, .int .u64 0] 60)).below hb1 (by simp <;> omega)
  obtain ⟨c0, c1, c2, c3, c4, c5⟩ := ba.six
  clear ba
  go_wp2_with fail
  simp only [hs]
  go_loopw [8] (fun i wr => ∃ r : Nat, q + r ≤ 6 ∧ i = .int .i64 ((q : Int) + (r : Int) - 1) ∧ Blk 60 wr w.heap.size (limbs a) ∧
   Blk 60 wr (w.heap.size + 1) (hiB (a * 2 ^ (64 * q + s)) (q + r)) ∧ Below w.heap.size w wr) (fun i _ => (intOf i + 1).toNat)
  case atStart =>
   refine ⟨6 - q, by omega, ?_, ?_, ?_, ?_⟩
   ·rw [show (q : Int) + ((6 - q : Nat) : Int) - 1 = 5 by omega]
   ·have := ((Blk.new (T := 60) w (limbs a)).alloc (.cells #[.int .u64 0, .int .u64 0, .int .u64 0, .int .u64 0, .int .u64 0, .int .u64 0] 60)).below hb1 (by simp <;> omega)
    simpa using this
   ·rw [show q + (6 - q) = 6 by omega, hiB_top]
    have := (Blk.new (T := 60) (w.alloc (.cells (limbs a) 60)) #[.int .u64 0, .int .u64 0, .int .u64 0, .int .u64 0, .int .u64 0, .int .u64 0]).below hb1 (by simp)
    simpa using this
   ·exact (((Below.refl _ _).alloc (Nat.le_refl _) _).alloc (by simp) _).trans (hb1.mono (by simp <;> omega))
  case round =>
   obtain ⟨r, hr, rfl, ha, hb, hbel⟩ := hrel
   cases r with
   | zero =>
    rw [show q + 0 = q from rfl, hiB_done _ q (fun i hi => by unfold limb; rw [limbN_leftz a q s i hi]; rfl)] at hb
    obtain ⟨d0, d1, d2, d3, d4, d5⟩ := hb.six
    obtain ⟨f0, f1, f2, f3, f4, f5⟩ := hb.six_free
    clear c0 c1 c2 c3 c4 c5
    go_wp2_with fail
    rw [hb.keep 0 _ (limbs_get _ 0 (by decide)), hb.keep 1 _ (limbs_get _ 1 (by decide)), hb.keep 2 _ (limbs_get _ 2 (by decide)), hb.keep 3 _ (limbs_get _ 3 (by decide)), hb.keep 4 _ (limbs_get _ 4 (by decide)), hb.keep 5 _ (limbs_get _ 5 (by decide))]
    exact bodyPost_ret (v := .tuple #[W (a * 2 ^ (64 * q + s)), .bool false]) (by simp [results, Tryz.results101, go_sem, d0, d1, d2, d3, d4, d5, limbs]; try rfl) rfl ⟨by rw [HL.out]; rfl, hbel⟩
   | succ j =>
    cases j with
    | zero =>
     rw [show (q : Int) + ((0 + 1 : Nat) : Int) - 1 = (q : Int) by omega]
     rw [show q + (0 + 1) = q + 1 from rfl] at hb
     have ca := ha.cell 0 (limbs_get a 0 (by omega))
     have fb := hb.free q
     have cb0 := hb.cell q (hiB_get _ _ _ (by omega) (by omega))
     have q5 : q < 6 := by omega
     clear c0 c1 c2 c3 c4 c5
     go_wp2_with fail
     go_roundw
     case rel => exact ⟨0, by omega, by go_num, ha.other _ _ (by simp), hb.set q _ (hiB_set _ q (by omega) _ (left_first a q s)), hbel.setCell (by simp) _⟩
     case measure => (simp [intOf]; try omega)
    | succ m =>
     obtain ⟨p, hp⟩ : ∃ p, p = q + m + 1 := ⟨_, rfl⟩
     rw [show (q : Int) + ((m + 1 + 1 : Nat) : Int) - 1 = (p : Int) by omega]
     rw [show q + (m + 1 + 1) = p + 1 by omega] at hb
     have p6 : p < 6 := by omega
     have qp : (q : Int) < (p : Int) := by omega
     have e1 : (p : Int) - (q : Int) = ((m + 1 : Nat) : Int) := by omega
     have e2 : (p : Int) - (q : Int) - 1 = (m : Int) := by omega
     have ca := ha.cell (m + 1) (limbs_get a (m + 1) (by omega))
     have ca2 := (ha.other ⟨w.heap.size + 1, p, none⟩ (.int .u64 (IntKind.u64.wrap (limb a (m + 1) * 2 ^ s))) (by simp)).cell m (limbs_get a m (by omega))
     have fb := hb.free p
     have cb0 := hb.cell p (hiB_get _ _ _ p6 (by omega))
     have b2 := hb.set p (.int .u64 (IntKind.u64.wrap (limb a (m + 1) * 2 ^ s))) rfl
     have cb := b2.cell p (v := .int .u64 (IntKind.u64.wrap (limb a (m + 1) * 2 ^ s))) (by rw [Array.getElem?_setIfInBounds, if_pos rfl, if_pos (by rw [hiB_size]; omega)])
     have fb2 := b2.free p
     have hm : m + 1 < 6 := by omega
     have im : (m : Int) < 6 := by omega
     have m6 : m < 6 := by omega
     have d6 : decide (m < 6) = true := by simp; omega
     have ip : (p : Int) < 6 := by omega
     have ip0 : (0 : Int) ≤ (p : Int) := by omega
     have im0 : (0 : Int) ≤ (m : Int) := by omega
     have e3 : ((m + 1 : Nat) : Int) - 1 = (m : Int) := by omega
     have e4 : (m : Int) + 1 - 1 = (m : Int) := by omega
     have v1 : IntKind.i64.wrap ((p : Int) - (q : Int)) = ((m + 1 : Nat) : Int) := by rw [e1]; exact IntWalk.i64_in _ (by omega)
     have v2 : IntKind.i64.wrap (((m + 1 : Nat) : Int) - 1) = (m : Int) := by rw [e3]; exact IntWalk.i64_in _ (by omega)
     have v3 : IntKind.i64.wrap ((m : Int) + 1 - 1) = (m : Int) := by rw [e4]; exact IntWalk.i64_in _ (by omega)
     clear b2 c0 c1 c2 c3 c4 c5
     have HP := Lib.hid hp
     clear hp
     go_wp2_with fail
     go_region
     all_goals go_wp2
     all_goals
      go_roundw
      case rel => exact ⟨m + 1, by have := HP.out; omega, by have := HP.out; simp; omega, ((ha.other _ _ (by simp)).other _ _ (by simp)).drew, by have e : q + (m + 1) = p := HP.out.symm; rw [e]; exact ((hb.set p _ rfl).set p _ (hiB_set2 _ p p6 _ _ (by rw [HP.out]; exact left_or a q s m s64))).drew, ((hbel.setCell (by simp) _).setCell (by simp) _).drew⟩
      case measure => (simp [intOf]; try omega)
 ·go_enter Tryz.func101, Tryz.ntmps101
  go_wp2_with fail
  refine (wideCount_any _ _).mono ?_
  rw [hc]
  rintro e w' ⟨rfl, rfl⟩
  go_wp2_with fail
  refine (wideLen_any a _ HA.out).mono ?_
  rintro e w1 ⟨rfl, hb1⟩
  have ba := ((Blk.new (T := 60) w (limbs a)).alloc (.cells #[.int .u64 0, .int .u64 0, .int .u64 0, .int .u64 0, .int .u64 0, .int .u64 0] 60)).below hb1 (by simp <;> omega)
  obtain ⟨c0, c1, c2, c3, c4, c5⟩ := ba.six
  clear ba
  go_wp2_with fail
  simp only [hs]
  go_loopw [8] (fun i wr => ∃ r : Nat, q + r ≤ 6 ∧ i = .int .i64 ((q : Int) + (r : Int) - 1) ∧ Blk 60 wr w.heap.size (limbs a) ∧
   Blk 60 wr (w.heap.size + 1) (hiB (a * 2 ^ (64 * q + s)) (q + r)) ∧ Below w.heap.size w wr) (fun i _ => (intOf i + 1).toNat)
  case atStart =>
   refine ⟨6 - q, by omega, ?_, ?_, ?_, ?_⟩
   ·rw [show (q : Int) + ((6 - q : Nat) : Int) - 1 = 5 by omega]
   ·have := ((Blk.new (T := 60) w (limbs a)).alloc (.cells #[.int .u64 0, .int .u64 0, .int .u64 0, .int .u64 0, .int .u64 0, .int .u64 0] 60)).below hb1 (by simp <;> omega)
    simpa using this
   ·rw [show q + (6 - q) = 6 by omega, hiB_top]
    have := (Blk.new (T := 60) (w.alloc (.cells (limbs a) 60)) #[.int .u64 0, .int .u64 0, .int .u64 0, .int .u64 0, .int .u64 0, .int .u64 0]).below hb1 (by simp)
    simpa using this
   ·exact (((Below.refl _ _).alloc (Nat.le_refl _) _).alloc (by simp) _).trans (hb1.mono (by simp <;> omega))
  case round =>
   obtain ⟨r, hr, rfl, ha, hb, hbel⟩ := hrel
   cases r with
   | zero =>
    rw [show q + 0 = q from rfl, hiB_done _ q (fun i hi => by unfold limb; rw [limbN_leftz a q s i hi]; rfl)] at hb
    obtain ⟨d0, d1, d2, d3, d4, d5⟩ := hb.six
    obtain ⟨f0, f1, f2, f3, f4, f5⟩ := hb.six_free
    clear c0 c1 c2 c3 c4 c5
    go_wp2_with fail
    rw [hb.keep 0 _ (limbs_get _ 0 (by decide)), hb.keep 1 _ (limbs_get _ 1 (by decide)), hb.keep 2 _ (limbs_get _ 2 (by decide)), hb.keep 3 _ (limbs_get _ 3 (by decide)), hb.keep 4 _ (limbs_get _ 4 (by decide)), hb.keep 5 _ (limbs_get _ 5 (by decide))]
    exact bodyPost_ret (v := .tuple #[W (a * 2 ^ (64 * q + s)), .bool (!z)]) (by simp [results, Tryz.results101, go_sem, d0, d1, d2, d3, d4, d5, limbs]; try rfl) rfl ⟨by rw [HL.out]; rfl, hbel⟩
   | succ j =>
    cases j with
    | zero =>
     rw [show (q : Int) + ((0 + 1 : Nat) : Int) - 1 = (q : Int) by omega]
     rw [show q + (0 + 1) = q + 1 from rfl] at hb
     have ca := ha.cell 0 (limbs_get a 0 (by omega))
     have fb := hb.free q
     have cb0 := hb.cell q (hiB_get _ _ _ (by omega) (by omega))
     have q5 : q < 6 := by omega
     clear c0 c1 c2 c3 c4 c5
     go_wp2_with fail
     go_roundw
     case rel => exact ⟨0, by omega, by go_num, ha.other _ _ (by simp), hb.set q _ (hiB_set _ q (by omega) _ (left_first a q s)), hbel.setCell (by simp) _⟩
     case measure => (simp [intOf]; try omega)
    | succ m =>
     obtain ⟨p, hp⟩ : ∃ p, p = q + m + 1 := ⟨_, rfl⟩
     rw [show (q : Int) + ((m + 1 + 1 : Nat) : Int) - 1 = (p : Int) by omega]
     rw [show q + (m + 1 + 1) = p + 1 by omega] at hb
     have p6 : p < 6 := by omega
     have qp : (q : Int) < (p : Int) := by omega
     have e1 : (p : Int) - (q : Int) = ((m + 1 : Nat) : Int) := by omega
     have e2 : (p : Int) - (q : Int) - 1 = (m : Int) := by omega
     have ca := ha.cell (m + 1) (limbs_get a (m + 1) (by omega))
     have ca2 := (ha.other ⟨w.heap.size + 1, p, none⟩ (.int .u64 (IntKind.u64.wrap (limb a (m + 1) * 2 ^ s))) (by simp)).cell m (limbs_get a m (by omega))
     have fb := hb.free p
     have cb0 := hb.cell p (hiB_get _ _ _ p6 (by omega))
     have b2 := hb.set p (.int .u64 (IntKind.u64.wrap (limb a (m + 1) * 2 ^ s))) rfl
     have cb := b2.cell p (v := .int .u64 (IntKind.u64.wrap (limb a (m + 1) * 2 ^ s))) (by rw [Array.getElem?_setIfInBounds, if_pos rfl, if_pos (by rw [hiB_size]; omega)])
     have fb2 := b2.free p
     have hm : m + 1 < 6 := by omega
     have im : (m : Int) < 6 := by omega
     have m6 : m < 6 := by omega
     have d6 : decide (m < 6) = true := by simp; omega
     have ip : (p : Int) < 6 := by omega
     have ip0 : (0 : Int) ≤ (p : Int) := by omega
     have im0 : (0 : Int) ≤ (m : Int) := by omega
     have e3 : ((m + 1 : Nat) : Int) - 1 = (m : Int) := by omega
     have e4 : (m : Int) + 1 - 1 = (m : Int) := by omega
     have v1 : IntKind.i64.wrap ((p : Int) - (q : Int)) = ((m + 1 : Nat) : Int) := by rw [e1]; exact IntWalk.i64_in _ (by omega)
     have v2 : IntKind.i64.wrap (((m + 1 : Nat) : Int) - 1) = (m : Int) := by rw [e3]; exact IntWalk.i64_in _ (by omega)
     have v3 : IntKind.i64.wrap ((m : Int) + 1 - 1) = (m : Int) := by rw [e4]; exact IntWalk.i64_in _ (by omega)
     clear b2 c0 c1 c2 c3 c4 c5
     have HP := Lib.hid hp
     clear hp
     go_wp2_with fail
     go_region
     all_goals go_wp2
     all_goals
      go_roundw
      case rel => exact ⟨m + 1, by have := HP.out; omega, by have := HP.out; simp; omega, ((ha.other _ _ (by simp)).other _ _ (by simp)).drew, by have e : q + (m + 1) = p := HP.out.symm; rw [e]; exact ((hb.set p _ rfl).set p _ (hiB_set2 _ p p6 _ _ (by rw [HP.out]; exact left_or a q s m s64))).drew, ((hbel.setCell (by simp) _).setCell (by simp) _).drew⟩
      case measure => (simp [intOf]; try omega)
def clip (x : Int) : Nat := (min (max x 0) 384).toNat
theorem clip_of (n : Nat) (h : n ≤ 384) : clip (n : Int) = n := by unfold clip; omega
theorem wideLeft_any (a : Nat) (x : Int) (w : World) (ha : a < top6) :
  CR_ 101 #[W a, .int .i64 x] w (.tuple #[W (a * 2 ^ clip x), .bool (lostL a (clip x))]) := by
 have e : 64 * (clip x / 64) + clip x % 64 = clip x := by omega
 have := wideLeft_q a (clip x) (clip x / 64) (clip x % 64) x w ha (by unfold clip; omega) (by omega) (by omega)
 rw [e] at this
 exact this
theorem wideRight_any (a : Nat) (x : Int) (w : World) (ha : a < top6) (hT : Tab w) :
  CR_ 180 #[W a, .int .i64 x] w (.tuple #[W (a / 2 ^ clip x), .bool (lostR a (clip x))]) := by
 have e : 64 * (clip x / 64) + clip x % 64 = clip x := by omega
 have := wideRight_q a (clip x) (clip x / 64) (clip x % 64) x w ha (by unfold clip; omega) (by omega) (by omega) hT
 rw [e] at this
 exact this
def clip64 (x : Int) : Nat := (min (max x 0) 64).toNat
theorem clip64_le (x : Int) : clip64 x ≤ 64 := by unfold clip64; omega
theorem wordCount_any (x : Int) (w : World) :
  Calls Tryz.prog 232 #[.int .i64 x] w fun e w' => e = .returned (.int .u64 (clip64 x : Nat)) ∧ w = w' := by
 have h : min (max x 0) 64 = ((clip64 x : Nat) : Int) := by unfold clip64; omega
 have H := Lib.hid h
 clear h
 go_enter Tryz.func232, Tryz.ntmps232
 go_wp2
 go_ret
 exact ⟨ret_int H.out, rfl⟩
def ones (k : Nat) : Nat := 2 ^ k - 1
theorem wordMask_any (x : Int) (w : World) :
  Calls Tryz.prog 223 #[.int .i64 x] w fun e w' => e = .returned (.int .u64 (ones (clip64 x) : Nat)) ∧ w = w' := by
 have hc := clip64_le x
 have H : Hid (IntKind.u64.wrap (IntKind.u64.wrap (2 ^ clip64 x) - 1) = ((ones (clip64 x) : Nat) : Int)) := by
  apply Lib.hid
  have h1 : 2 ^ clip64 x ≤ (18446744073709551616 : Nat) := by rw [B64]; exact Nat.pow_le_pow_right (by decide) hc
  have h2 := Nat.two_pow_pos (clip64 x)
  rw [IntKind.wrap_u64, IntKind.wrap_u64]
  unfold ones
  have e : (2 : Int) ^ clip64 x = ((2 ^ clip64 x : Nat) : Int) := by simp
  rw [e]
  generalize 2 ^ clip64 x = y at *
  omega
 go_enter Tryz.func223, Tryz.ntmps223
 go_wp2_with fail
 refine (wordCount_any _ _).mono ?_
 rintro e w' ⟨rfl, rfl⟩
 go_wp2
 go_ret
 exact ⟨ret_int H.out, rfl⟩
theorem limbN_ones (n i : Nat) : limbN (ones n) i = ones (clip64 ((n : Int) - 64 * (i : Int))) := by
 have e : ∀ k, clip64 ((n : Int) - 64 * (i : Int)) = k ↔ k = min (n - 64 * i) 64 := by
  intro k; unfold clip64; omega
 rw [(e _).2 rfl]
 apply Nat.eq_of_testBit_eq
 intro j
 unfold limbN ones
 rw [B64, Nat.testBit_mod_two_pow, Nat.testBit_div_two_pow, Nat.testBit_two_pow_sub_one, Nat.testBit_two_pow_sub_one]
 rw [Bool.eq_iff_iff]; simp; omega
theorem wideMask_any (x : Int) (w : World) :
  CR_ 190 #[.int .i64 x] w (W (ones (clip x))) := by
 obtain ⟨n, hn⟩ : ∃ n, clip x = n := ⟨_, rfl⟩
 have hc : min (max x 0) 384 = (n : Int) := by unfold clip at hn; omega
 have hn4 : n ≤ 384 := by omega
 rw [hn]
 clear hn
 go_enter Tryz.func190, Tryz.ntmps190
 go_wp2_with fail
 refine (wideCount_any _ _).mono ?_
 rw [hc]
 rintro e w' ⟨rfl, rfl⟩
 go_wp2_with fail
 go_loopw [7] (fun i wr => ∃ k : Nat, k ≤ 6 ∧ i = .int .i64 k ∧ Blk 60 wr (w.heap.size + 1) (fillTo (limbs 0) (fun i => .int .u64 (limb (ones n) i)) k) ∧
   Blk 60 wr w.heap.size (limbs 0) ∧ Below w.heap.size w wr) (fun i _ => 6 - (intOf i).toNat)
 case atStart =>
  refine ⟨0, by omega, rfl, ?_, ?_, (((Below.refl _ _).alloc (Nat.le_refl _) _).alloc (by simp) _)⟩
  ·have := Blk.new (T := 60) (w.alloc (.cells #[.int .u64 0, .int .u64 0, .int .u64 0, .int .u64 0, .int .u64 0, .int .u64 0] 60)) #[.int .u64 0, .int .u64 0, .int .u64 0, .int .u64 0, .int .u64 0, .int .u64 0]
   rw [fillTo, limbs_zero]
   simpa using this
  ·rw [limbs_zero]
   exact (Blk.new _ _).alloc _
 case round =>
  obtain ⟨k, hk, rfl, ha, hs, hbel⟩ := hrel
  by_cases hlt : k < 6
  ·have ca := ha.cell k ((fillTo_hi _ _ k k (Nat.le_refl _)).trans (limbs_get 0 k hlt))
   have fa := ha.free k
   have w1 : IntKind.i64.wrap (64 * (k : Int)) = 64 * (k : Int) := IntWalk.i64_in _ (by omega)
   have w2 : IntKind.i64.wrap ((n : Int) - 64 * (k : Int)) = (n : Int) - 64 * (k : Int) := IntWalk.i64_in _ (by omega)
   go_wp2_with fail
   refine (wordMask_any _ _).mono ?_
   rintro e w' ⟨rfl, rfl⟩
   go_wp2
   go_roundw
   case rel => exact ⟨k + 1, by omega, by go_num, ha.set k _ (by rw [← limbN_ones]; rfl), hs.other _ _ (by simp), hbel.setCell (by simp) _⟩
   case measure => simp [intOf]; omega
  ·have : k = 6 := by omega
   subst this
   rw [fillTo_all (limbs 0) _ (ones n) rfl (fun i _ => rfl)] at ha
   obtain ⟨c0, c1, c2, c3, c4, c5⟩ := ha.six
   obtain ⟨d0, d1, d2, d3, d4, d5⟩ := hs.six
   obtain ⟨f0, f1, f2, f3, f4, f5⟩ := hs.six_free
   clear hlt
   go_wp2_with fail
   have hr := hs.store6 rfl (.int .u64 (limb (ones n) 0)) (.int .u64 (limb (ones n) 1)) (.int .u64 (limb (ones n) 2)) (.int .u64 (limb (ones n) 3)) (.int .u64 (limb (ones n) 4)) (.int .u64 (limb (ones n) 5))
   obtain ⟨r0, r1, r2, r3, r4, r5⟩ := Blk.six (a := ones n) hr
   exact bodyPost_ret (v := W (ones n)) (by simp only [results, Tryz.results190]; simp [go_sem, r0, r1, r2, r3, r4, r5, limbs]) rfl ⟨rfl, below_set6 hbel (by omega) _ _ _ _ _ _⟩
theorem wideAnd_any (a b : Nat) (w : World) :
  CR_ 189 #[W a, W b] w (W (a &&& b)) := by
 have sa := limbs_size a
 have sb := limbs_size b
 go_enter Tryz.func189, Tryz.ntmps189
 go_wp2_with fail
 go_loopw [6] (fun i wr => ∃ k : Nat, k ≤ 6 ∧ i = .int .i64 k ∧ Blk 60 wr w.heap.size (fillTo (limbs a) (fun i => .int .u64 (limb (a &&& b) i)) k) ∧ Blk 60 wr (w.heap.size + 1) (limbs b) ∧
   Blk 60 wr (w.heap.size + 1 + 1) (limbs 0) ∧ Below w.heap.size w wr) (fun i _ => 6 - (intOf i).toNat)
 case atStart =>
  refine ⟨0, by omega, rfl, ((Blk.new w _).alloc _).alloc _, ?_, ?_, ((((Below.refl _ _).alloc (Nat.le_refl _) _).alloc (by simp) _).alloc (by simp <;> omega) _)⟩
  ·have := (Blk.new (T := 60) (w.alloc (.cells (limbs a) 60)) (limbs b)).alloc (.cells #[.int .u64 0, .int .u64 0, .int .u64 0, .int .u64 0, .int .u64 0, .int .u64 0] 60)
   simpa using this
  ·have := Blk.new (T := 60) ((w.alloc (.cells (limbs a) 60)).alloc (.cells (limbs b) 60)) #[.int .u64 0, .int .u64 0, .int .u64 0, .int .u64 0, .int .u64 0, .int .u64 0]
   rw [limbs_zero]
   simpa using this
 case round =>
  obtain ⟨k, hk, rfl, ha, hb, hs, hbel⟩ := hrel
  by_cases hlt : k < 6
  ·have ca := ha.cell k ((fillTo_hi _ _ k k (Nat.le_refl _)).trans (limbs_get a k hlt))
   have cb := hb.cell k (limbs_get b k hlt)
   have fa := ha.free k
   go_wp2_with fail
   go_region_with (fail)
   all_goals go_wp2
   all_goals
    go_roundw
    case rel => exact ⟨k + 1, by omega, by go_num, (ha.set k _ (by rw [limb_and]; rfl)).drew, (hb.other _ _ (by simp)).drew, (hs.other _ _ (by simp; omega)).drew, (hbel.setCell (by simp) _).drew⟩
    case measure => simp [intOf]; omega
  ·have : k = 6 := by omega
   subst this
   rw [fillTo_all (limbs a) _ (a &&& b) rfl (fun i _ => rfl)] at ha
   obtain ⟨c0, c1, c2, c3, c4, c5⟩ := ha.six
   obtain ⟨d0, d1, d2, d3, d4, d5⟩ := hs.six
   obtain ⟨f0, f1, f2, f3, f4, f5⟩ := hs.six_free
   clear hb hlt
   go_wp2_with fail
   have hr := hs.store6 rfl (.int .u64 (limb (a &&& b) 0)) (.int .u64 (limb (a &&& b) 1)) (.int .u64 (limb (a &&& b) 2)) (.int .u64 (limb (a &&& b) 3)) (.int .u64 (limb (a &&& b) 4)) (.int .u64 (limb (a &&& b) 5))
   obtain ⟨r0, r1, r2, r3, r4, r5⟩ := Blk.six (a := a &&& b) hr
   exact bodyPost_ret (v := W (a &&& b)) (by simp only [results, Tryz.results189]; simp [go_sem, r0, r1, r2, r3, r4, r5, limbs]) rfl ⟨rfl, below_set6 hbel (by omega) _ _ _ _ _ _⟩
theorem pow_mono2 (b c : Nat) (h : b ≤ c) : 2 ^ b ≤ 2 ^ c := Nat.pow_le_pow_right (by decide) h
theorem pow_split (b d T : Nat) (h : T = 2 ^ b) : 2 ^ (b + d) = T * 2 ^ d := by rw [h, Nat.pow_add]
theorem top_of_pow (T b c : Nat) (h : T = 2 ^ b) (hc : b ≤ c) : T ≤ 2 ^ c := by rw [h]; exact pow_mono2 b c hc
theorem top6_le (c : Nat) (hc : 384 ≤ c) : top6 ≤ 2 ^ c := top_of_pow top6 (64 * 6) c top6.eq_1 hc
theorem mod_pow_big (a c : Nat) (h : a < top6) (hc : 384 ≤ c) : a % 2 ^ c = a := Nat.mod_eq_of_lt (Nat.lt_of_lt_of_le h (top6_le c hc))
theorem div_pow_big (a c : Nat) (h : a < top6) (hc : 384 ≤ c) : a / 2 ^ c = 0 := Nat.div_eq_of_lt (Nat.lt_of_lt_of_le h (top6_le c hc))
theorem mul_pow_big (a c : Nat) (hc : 384 ≤ c) : a * 2 ^ c % top6 = 0 := by
 obtain ⟨d, rfl⟩ : ∃ d, c = 64 * 6 + d := ⟨c - 64 * 6, by omega⟩
 rw [pow_split (64 * 6) d top6 top6.eq_1, Nat.mul_left_comm, Nat.mul_mod_right]
theorem mul_pow_big2 (a c : Nat) (hc : 384 ≤ c) : decide (top6 ≤ a * 2 ^ c) = !decide (a = 0) := by
 by_cases h0 : a = 0
 ·subst h0
  have : ¬ top6 ≤ 0 := Nat.not_le.2 zero_top
  simp [this]
 ·rw [decide_eq_false h0, decide_eq_true (Nat.le_trans (top6_le c hc) (Nat.le_mul_of_pos_left _ (Nat.pos_of_ne_zero h0)))]
  rfl
theorem clip_cases (x : Int) : clip x = x.toNat ∨ 384 ≤ clip x ∧ 384 ≤ x.toNat := by unfold clip; omega
theorem lostR_iff (a c : Nat) (h : a < top6) : lostR a c = !decide (a % 2 ^ c = 0) := by
 unfold lostR
 by_cases h0 : a = 0
 ·subst h0; simp
 ·obtain ⟨m, e, hl⟩ := lowN_spec a h h0
  generalize lowN a = l at *
  rw [decide_eq_false h0]
  by_cases hc : l < c
  ·have : ¬ a % 2 ^ c = 0 := by
    intro hm
    have hd : 2 ^ c * (a / 2 ^ c) = a := by have := Nat.div_add_mod a (2 ^ c); omega
    have e2 : 2 ^ l * (2 * (2 ^ (c - l - 1) * (a / 2 ^ c))) = 2 ^ l * (2 * m + 1) := by
     rw [← e, ← Nat.mul_assoc 2, ← Nat.mul_assoc]
     have : 2 ^ l * (2 * 2 ^ (c - l - 1)) = 2 ^ c := by
      rw [show (2 : Nat) * 2 ^ (c - l - 1) = 2 ^ (c - l - 1 + 1) by rw [Nat.pow_succ, Nat.mul_comm], ← Nat.pow_add]
      congr 1; omega
     rw [this, hd]
    have := Nat.eq_of_mul_eq_mul_left (Nat.two_pow_pos l) e2
    omega
   rw [decide_eq_true hc, decide_eq_false this]; rfl
  ·have : a % 2 ^ c = 0 := by
    rw [e, show l = c + (l - c) by omega, Nat.pow_add, Nat.mul_assoc, Nat.mul_mod_right]
   rw [decide_eq_false hc, decide_eq_true this]; rfl
theorem clip_min (x : Int) : clip x = min x.toNat 384 := by unfold clip; omega
theorem div_clip (a : Nat) (x : Int) (h : a < top6) : a / 2 ^ clip x = a / 2 ^ x.toNat := by
 rcases clip_cases x with e | ⟨e1, e2⟩
 ·rw [e]
 ·rw [div_pow_big a _ h e1, div_pow_big a _ h e2]
theorem lostR_clip (a : Nat) (x : Int) (h : a < top6) : lostR a (clip x) = !decide (a % 2 ^ x.toNat = 0) := by
 rw [lostR_iff a _ h]
 rcases clip_cases x with e | ⟨e1, e2⟩
 ·rw [e]
 ·rw [mod_pow_big a _ h e1, mod_pow_big a _ h e2]
theorem wideRight_n (a : Nat) (x : Int) (w : World) (ha : a < top6) (hT : Tab w) :
  CR_ 180 #[W a, .int .i64 x] w (.tuple #[W (a / 2 ^ x.toNat), .bool (!decide (a % 2 ^ x.toNat = 0))]) := by
 have := wideRight_any a x w ha hT
 rw [lostR_clip a x ha, div_clip a x ha] at this
 exact this
theorem limbs_modeq (a b : Nat) (h : a % top6 = b % top6) : limbs a = limbs b := by rw [← limbs_mod a, ← limbs_mod b, h]
theorem limbs_clip (a : Nat) (x : Int) : limbs (a * 2 ^ clip x) = limbs (a * 2 ^ x.toNat) := by
 rcases clip_cases x with e | ⟨e1, e2⟩
 ·rw [e]
 ·exact limbs_modeq _ _ (by rw [mul_pow_big a _ e1, mul_pow_big a _ e2])
theorem lostL_pow (a c l b T : Nat) (hT : T = 2 ^ b) (h1 : 2 ^ (l - 1) ≤ a) (h2 : a < 2 ^ l) (h3 : 1 ≤ l) : b < l + c ↔ T ≤ a * 2 ^ c := by
 subst hT
 constructor
 ·intro h
  refine Nat.le_trans ?_ (Nat.mul_le_mul_right (2 ^ c) h1)
  rw [← Nat.pow_add]
  exact Nat.pow_le_pow_right (by decide) (by omega)
 ·intro h
  have : a * 2 ^ c < 2 ^ (l + c) := by rw [Nat.pow_add]; exact Nat.mul_lt_mul_of_pos_right h2 (Nat.two_pow_pos c)
  exact (Nat.pow_lt_pow_iff_right (by decide)).1 (Nat.lt_of_le_of_lt h this)
theorem lostL_iff (a c : Nat) : lostL a c = decide (top6 ≤ a * 2 ^ c) := by
 unfold lostL
 by_cases h0 : a = 0
 ·subst h0
  have : ¬ top6 ≤ 0 := Nat.not_le.2 zero_top
  simp [this]
 ·rw [decide_eq_false h0]
  simp only [Bool.not_false, Bool.and_true]
  rw [Bool.eq_iff_iff, decide_eq_true_iff, decide_eq_true_iff]
  exact lostL_pow a c _ (64 * 6) top6 top6.eq_1 (lenN_ge a h0) (lenN_lt a) (lenN_pos a h0)
theorem lostL_clip (a : Nat) (x : Int) : lostL a (clip x) = decide (top6 ≤ a * 2 ^ x.toNat) := by
 rw [lostL_iff]
 rcases clip_cases x with e | ⟨e1, e2⟩
 ·rw [e]
 ·rw [mul_pow_big2 a _ e1, mul_pow_big2 a _ e2]
theorem wideLeft_n (a : Nat) (x : Int) (w : World) (ha : a < top6) :
  CR_ 101 #[W a, .int .i64 x] w (.tuple #[W (a * 2 ^ x.toNat), .bool (decide (top6 ≤ a * 2 ^ x.toNat))]) := by
 have := wideLeft_any a x w ha
 rw [lostL_clip a x] at this
 unfold W at this
 rw [limbs_clip] at this
 exact this
theorem ones_clip (x : Int) (h : x ≤ 384) : ones (clip x) = ones x.toNat := by
 rw [clip_min, Nat.min_eq_left (by omega)]
theorem and_ones (a n : Nat) : a &&& ones n = a % 2 ^ n := Nat.and_two_pow_sub_one_eq_mod a n
theorem wideMask_n (x : Int) (w : World) (hx : x ≤ 384) :
  CR_ 190 #[.int .i64 x] w (W (ones x.toNat)) := by
 have := wideMask_any x w
 rw [ones_clip x hx] at this
 exact this
theorem wideCut_n (a n : Nat) (w : World) :
  CR_ 189 #[W a, W (ones n)] w (W (a % 2 ^ n)) := by
 have := wideAnd_any a (ones n) w
 rw [and_ones] at this
 exact this
theorem testBit_big (a n : Nat) (h : a < top6) (hn : 384 ≤ n) : a.testBit n = false := Nat.testBit_lt_two_pow (Nat.lt_of_lt_of_le h (top6_le n hn))
theorem bitI_in (a m : Nat) (h : a < top6) : bitI a (m : Int) = a.testBit m := by
 unfold bitI
 by_cases hm : m < 384
 ·rw [decide_eq_true (by omega : (0 : Int) ≤ (m : Int)), decide_eq_true (by omega : (m : Int) < 384)]; simp
 ·rw [testBit_big a m h (by omega), decide_eq_false (by omega : ¬ (m : Int) < 384)]; simp
theorem jam_ret {a b : Nat} {x y : Int} {u v : Bool} (h1 : a = b) (h2 : x = y) (h3 : u = v) : Ending.returned (.tuple #[W a, .int .i64 x, .bool u]) = .returned (.tuple #[W b, .int .i64 y, .bool v]) := by rw [h1, h2, h3]
@[go_sem] theorem limbs_toList (a : Nat) : (limbs a).toList = [.int .u64 (limb a 0), .int .u64 (limb a 1), .int .u64 (limb a 2), .int .u64 (limb a 3), .int .u64 (limb a 4), .int .u64 (limb a 5)] := rfl
def put6 (w : World) (g y : Nat) : World := (((((w.setCell ⟨g, 0, none⟩ (.int .u64 (limb y 0))).setCell ⟨g, 1, none⟩ (.int .u64 (limb y 1))).setCell ⟨g, 2, none⟩ (.int .u64 (limb y 2))).setCell ⟨g, 3, none⟩ (.int .u64 (limb y 3))).setCell ⟨g, 4, none⟩ (.int .u64 (limb y 4))).setCell ⟨g, 5, none⟩ (.int .u64 (limb y 5))
theorem Blk.put6 {T : TypeId} {w : World} {g : Nat} {cs : Array Value} (h : Blk T w g cs) (hs : cs.size = 6) (y : Nat) : Blk T (put6 w g y) g (limbs y) := h.store6 hs _ _ _ _ _ _
theorem Blk.put6_other {T : TypeId} {w : World} {g k : Nat} {cs : Array Value} (h : Blk T w g cs) (y : Nat) (hne : g ≠ k) : Blk T (Go.Proofs.YtgmhmpflmgfcdaaGreatDoor.put6 w k y) g cs :=
 (((((h.other _ _ hne).other _ _ hne).other _ _ hne).other _ _ hne).other _ _ hne).other _ _ hne
theorem below_put6 {B : Nat} {w0 w : World} {g : Nat} (hb : Below B w0 w) (hg : B ≤ g) (y : Nat) : Below B w0 (put6 w g y) := below_set6 hb hg _ _ _ _ _ _
theorem put6_size (w : World) (g y : Nat) : (put6 w g y).heap.size = w.heap.size := by unfold put6; simp
theorem Blk.again {T : TypeId} {w : World} {g y : Nat} (h : Blk T w g (limbs y)) : Go.Proofs.YtgmhmpflmgfcdaaGreatDoor.put6 w g y = w := by
 unfold Go.Proofs.YtgmhmpflmgfcdaaGreatDoor.put6
 rw [h.keep 0 _ (limbs_get _ 0 (by decide)), h.keep 1 _ (limbs_get _ 1 (by decide)), h.keep 2 _ (limbs_get _ 2 (by decide)), h.keep 3 _ (limbs_get _ 3 (by decide)), h.keep 4 _ (limbs_get _ 4 (by decide)), h.keep 5 _ (limbs_get _ 5 (by decide))]
set_option maxHeartbeats 6400000 in
theorem jamCut_in (a m : Nat) (w : World) (ha : a < top6) (hT : Tab w) (hm : m < 384) :
  CR_ 122 #[W a, .int .i64 ((m : Int) + 1)] w (.tuple #[W (a / 2 ^ (m + 1)), .int .i64 (halfN a (m + 1)), .bool (decide (a % 2 ^ (m + 1) = 0))]) := by
 have sa := limbs_size a
 have HA := Lib.hid ha
 have HT := Lib.hid hT
 obtain ⟨z, hz⟩ : ∃ z, decide (a % 2 ^ m = 0) = z := ⟨_, rfl⟩
 obtain ⟨t, ht⟩ : ∃ t, a.testBit m = t := ⟨_, rfl⟩
 obtain ⟨x, hx⟩ : ∃ x, decide (a % 2 ^ (m + 1) = 0) = x := ⟨_, rfl⟩
 have HH : Hid (halfN a (m + 1) = cond t (cond z 0 1) (-1)) := by
  apply Lib.hid
  unfold halfN
  rw [if_neg (by omega), show m + 1 - 1 = m from rfl, ht, ← hz]
  cases t <;> by_cases h : a % 2 ^ m = 0 <;> simp [h]
 have eq0 := fun w => (run_equal_zero w (a % 2 ^ m) (Nat.lt_of_le_of_lt (Nat.mod_le _ _) ha)).trans (by rw [hz])
 have eq1 : ∀ w, (Op.equalIn 10000 60 (.agg (limbs (a % 2 ^ m))) (.agg #[.int .u64 0, .int .u64 0, .int .u64 0, .int .u64 0, .int .u64 0, .int .u64 0])).run Tryz.prog w = .ok z w := eq0
 have hc : min (max ((m : Int) + 1) 0) 385 = (m : Int) + 1 := by omega
 have h0 : ((m : Int) + 1 == 0) = false := by simp; omega
 have h5 : ((m : Int) + 1 == 385) = false := by simp; omega
 have hs : IntKind.i64.wrap ((m : Int) + 1 - 1) = (m : Int) := by rw [show (m : Int) + 1 - 1 = (m : Int) by omega]; exact IntWalk.i64_in _ (by omega)
 have ms : (m : Int) + 1 - 1 = (m : Int) := by omega
 have tn : ((m : Int) + 1).toNat = m + 1 := by omega
 rw [hx]
 have HX := Lib.hid hx
 clear ha hT hx hz
 cases t
 ·go_enter Tryz.func122, Tryz.ntmps122
  go_wp2_with fail
  refine (wideRight_n a _ _ HA.out (HT.out.below (((Below.refl _ _).alloc (Nat.le_refl _) _).alloc (by simp) _))).mono ?_
  rw [tn, HX.out]
  rintro e w1 ⟨rfl, hb1⟩
  have b4 : Blk 60 w1 (w.heap.size + 1) (limbs 0) := by
   rw [limbs_zero]
   have := (Blk.new (T := 60) (w.alloc (.cells (limbs a) 60)) #[.int .u64 0, .int .u64 0, .int .u64 0, .int .u64 0, .int .u64 0, .int .u64 0]).below hb1 (by simp)
   simpa using this
  have b2 : Blk 60 w1 w.heap.size (limbs a) := by
   have := ((Blk.new (T := 60) w (limbs a)).alloc (.cells #[.int .u64 0, .int .u64 0, .int .u64 0, .int .u64 0, .int .u64 0, .int .u64 0] 60)).below hb1 (by simp <;> omega)
   simpa using this
  obtain ⟨f0, f1, f2, f3, f4, f5⟩ := b4.six_free
  obtain ⟨c0, c1, c2, c3, c4, c5⟩ := b2.six
  obtain ⟨d0, d1, d2, d3, d4, d5⟩ := b4.six
  go_wp2_with fail
  refine (wideBit_any a m (put6 w1 (w.heap.size + 1) (a / 2 ^ (m + 1)))).mono ?_
  rw [bitI_in a m HA.out, ht]
  rintro e w2 ⟨rfl, hb2⟩
  have hb := (below_put6 (((((Below.refl _ _).alloc (Nat.le_refl _) _).alloc (by simp) _).trans (hb1.mono (by simp <;> omega)))) (by omega : w.heap.size ≤ w.heap.size + 1) (a / 2 ^ (m + 1))).trans (hb2.mono (by rw [put6_size]; exact Nat.le_of_lt b2.lt))
  replace b2 := (b2.put6_other (a / 2 ^ (m + 1)) (show w.heap.size ≠ w.heap.size + 1 by omega)).below hb2 (by rw [put6_size]; exact b2.lt)
  replace b4 := (b4.put6 rfl (a / 2 ^ (m + 1))).below hb2 (by rw [put6_size]; exact b4.lt)
  clear f0 f1 f2 f3 f4 f5 c0 c1 c2 c3 c4 c5 d0 d1 d2 d3 d4 d5
  clear hb1 hb2
  obtain ⟨f0, f1, f2, f3, f4, f5⟩ := b4.six_free
  obtain ⟨d0, d1, d2, d3, d4, d5⟩ := b4.six
  go_wp2_with fail
  have hk := b4.again
  unfold put6 at hk
  rw [hk]
  exact bodyPost_ret (v := .tuple #[W (a / 2 ^ (m + 1)), .int .i64 (-1), .bool x]) v1_ rfl ⟨jam_ret rfl (by rw [HH.out]; rfl) rfl, hb⟩
 ·go_enter Tryz.func122, Tryz.ntmps122
  go_wp2_with fail
  refine (wideRight_n a _ _ HA.out (HT.out.below (((Below.refl _ _).alloc (Nat.le_refl _) _).alloc (by simp) _))).mono ?_
  rw [tn, HX.out]
  rintro e w1 ⟨rfl, hb1⟩
  have b4 : Blk 60 w1 (w.heap.size + 1) (limbs 0) := by
   rw [limbs_zero]
   have := (Blk.new (T := 60) (w.alloc (.cells (limbs a) 60)) #[.int .u64 0, .int .u64 0, .int .u64 0, .int .u64 0, .int .u64 0, .int .u64 0]).below hb1 (by simp)
   simpa using this
  have b2 : Blk 60 w1 w.heap.size (limbs a) := by
   have := ((Blk.new (T := 60) w (limbs a)).alloc (.cells #[.int .u64 0, .int .u64 0, .int .u64 0, .int .u64 0, .int .u64 0, .int .u64 0] 60)).below hb1 (by simp <;> omega)
   simpa using this
  obtain ⟨f0, f1, f2, f3, f4, f5⟩ := b4.six_free
  obtain ⟨c0, c1, c2, c3, c4, c5⟩ := b2.six
  obtain ⟨d0, d1, d2, d3, d4, d5⟩ := b4.six
  go_wp2_with fail
  refine (wideBit_any a m (put6 w1 (w.heap.size + 1) (a / 2 ^ (m + 1)))).mono ?_
  rw [bitI_in a m HA.out, ht]
  rintro e w2 ⟨rfl, hb2⟩
  have hb := (below_put6 (((((Below.refl _ _).alloc (Nat.le_refl _) _).alloc (by simp) _).trans (hb1.mono (by simp <;> omega)))) (by omega : w.heap.size ≤ w.heap.size + 1) (a / 2 ^ (m + 1))).trans (hb2.mono (by rw [put6_size]; exact Nat.le_of_lt b2.lt))
  replace b2 := (b2.put6_other (a / 2 ^ (m + 1)) (show w.heap.size ≠ w.heap.size + 1 by omega)).below hb2 (by rw [put6_size]; exact b2.lt)
  replace b4 := (b4.put6 rfl (a / 2 ^ (m + 1))).below hb2 (by rw [put6_size]; exact b4.lt)
  clear f0 f1 f2 f3 f4 f5 c0 c1 c2 c3 c4 c5 d0 d1 d2 d3 d4 d5
  clear hb1 hb2
  obtain ⟨f0, f1, f2, f3, f4, f5⟩ := b4.six_free
  obtain ⟨d0, d1, d2, d3, d4, d5⟩ := b4.six
  obtain ⟨c0, c1, c2, c3, c4, c5⟩ := b2.six
  go_wp2_with fail
  have l2 := b2.lt
  have m4 : (m : Int) ≤ 384 := by omega
  have wm : IntKind.i64.wrap (m : Int) = (m : Int) := IntWalk.i64_in _ (by omega)
  have b2 := b2.drew
  have hb := hb.drew
  clear hm ms tn h0 h5 hc
  go_region_held3 (fun w' => w'.cell? ⟨w.heap.size, 0, none⟩ = some (.int .u64 (limb a 0)) ∧ w'.cell? ⟨w.heap.size, 1, none⟩ = some (.int .u64 (limb a 1)) ∧ w'.cell? ⟨w.heap.size, 2, none⟩ = some (.int .u64 (limb a 2)) ∧ w'.cell? ⟨w.heap.size, 3, none⟩ = some (.int .u64 (limb a 3)) ∧ w'.cell? ⟨w.heap.size, 4, none⟩ = some (.int .u64 (limb a 4)) ∧ w'.cell? ⟨w.heap.size, 5, none⟩ = some (.int .u64 (limb a 5))) (first | exact ⟨c0, c1, c2, c3, c4, c5⟩ | exact ⟨g0, g1, g2, g3, g4, g5⟩ | exact ⟨k0, k1, k2, k3, k4, k5⟩)
   (first
   | (go_at_call 190; refine (wideMask_n (m : Int) _ m4).mono ?_; rw [Int.toNat_natCast]; rintro e w3 ⟨rfl, hb3⟩; obtain ⟨g0, g1, g2, g3, g4, g5⟩ := (b2.below hb3 b2.lt).six)
   | (go_at_call 189; refine (wideCut_n a m _).mono ?_; rintro e w4 ⟨rfl, hb4⟩; obtain ⟨k0, k1, k2, k3, k4, k5⟩ := ((b2.below hb3 b2.lt).below hb4 (b2.below hb3 b2.lt).lt).six))
  all_goals
   replace hb := (hb.trans (hb3.mono (Nat.le_of_lt b2.lt))).trans (hb4.mono (Nat.le_of_lt (b2.below hb3 b2.lt).lt))
   replace b4 := ((b4.drew.below hb3 b4.lt).below hb4 (b4.drew.below hb3 b4.lt).lt)
   clear f0 f1 f2 f3 f4 f5 d0 d1 d2 d3 d4 d5 c0 c1 c2 c3 c4 c5 g0 g1 g2 g3 g4 g5 k0 k1 k2 k3 k4 k5 hb3 hb4
   obtain ⟨f0, f1, f2, f3, f4, f5⟩ := b4.six_free
   obtain ⟨d0, d1, d2, d3, d4, d5⟩ := b4.six
   cases z
   ·go_wp2_with fail
    have hk := b4.again
    unfold put6 at hk
    rw [hk]
    exact bodyPost_ret (v := .tuple #[W (a / 2 ^ (m + 1)), .int .i64 1, .bool x]) v1_ rfl ⟨jam_ret rfl (by rw [HH.out]; rfl) rfl, hb⟩
   ·go_wp2_with fail
    have hk := b4.again
    unfold put6 at hk
    rw [hk]
    exact bodyPost_ret (v := .tuple #[W (a / 2 ^ (m + 1)), .int .i64 0, .bool x]) v1_ rfl ⟨jam_ret rfl (by rw [HH.out]; rfl) rfl, hb⟩
theorem wideRight_zero (a : Nat) (w : World) (ha : a < top6) (hT : Tab w) :
  CR_ 180 #[W a, .int .i64 0] w (.tuple #[W a, .bool false]) := by
 have := wideRight_n a 0 w ha hT
 rw [show (0 : Int).toNat = 0 from rfl, Nat.pow_zero, Nat.div_one, Nat.mod_one, decide_eq_true rfl] at this
 exact this
theorem wideRight_big (a : Nat) (w : World) (ha : a < top6) (hT : Tab w) :
  CR_ 180 #[W a, .int .i64 385] w (.tuple #[W 0, .bool (!decide (a = 0))]) := by
 obtain ⟨x, hx⟩ : ∃ x : Int, x = 385 := ⟨_, rfl⟩
 have := wideRight_n a x w ha hT
 rw [div_pow_big a _ ha (by omega), mod_pow_big a _ ha (by omega), hx] at this
 exact this
set_option maxHeartbeats 6400000 in
theorem jamCut_zero (a : Nat) (x : Int) (w : World) (ha : a < top6) (hT : Tab w) (hc : min (max x 0) 385 = 0) :
  CR_ 122 #[W a, .int .i64 x] w (.tuple #[W (a), .int .i64 (-1), .bool (true)]) := by
 have sa := limbs_size a
 have HA := Lib.hid ha
 have HT := Lib.hid hT
 clear ha hT
 go_enter Tryz.func122, Tryz.ntmps122
 go_wp2_with fail
 refine (wideRight_zero a _ HA.out (HT.out.below (((Below.refl _ _).alloc (Nat.le_refl _) _).alloc (by simp) _))).mono ?_
 rintro e w1 ⟨rfl, hb1⟩
 have b4 : Blk 60 w1 (w.heap.size + 1) (limbs 0) := by
  rw [limbs_zero]
  have := (Blk.new (T := 60) (w.alloc (.cells (limbs a) 60)) #[.int .u64 0, .int .u64 0, .int .u64 0, .int .u64 0, .int .u64 0, .int .u64 0]).below hb1 (by simp)
  simpa using this
 obtain ⟨f0, f1, f2, f3, f4, f5⟩ := b4.six_free
 obtain ⟨d0, d1, d2, d3, d4, d5⟩ := b4.six
 go_upto_region 3 with (fail)
 have hb := below_put6 (((((Below.refl w.heap.size w).alloc (Nat.le_refl _) _).alloc (by simp) _).trans (hb1.mono (by simp <;> omega)))) (by omega : w.heap.size ≤ w.heap.size + 1) (a)
 replace b4 := b4.put6 rfl (a)
 clear f0 f1 f2 f3 f4 f5 d0 d1 d2 d3 d4 d5 hb1
 change Code.wp _ _ _ _ (put6 w1 (w.heap.size + 1) (a))
 generalize put6 w1 (w.heap.size + 1) (a) = u at *
 obtain ⟨f0, f1, f2, f3, f4, f5⟩ := b4.six_free
 obtain ⟨d0, d1, d2, d3, d4, d5⟩ := b4.six
 go_wp2_with fail
 have hk := b4.again
 unfold put6 at hk
 rw [hk]
 exact bodyPost_ret (v := .tuple #[W (a), .int .i64 (-1), .bool (true)]) v1_ rfl ⟨rfl, hb⟩
set_option maxHeartbeats 6400000 in
theorem jamCut_big (a : Nat) (x : Int) (w : World) (ha : a < top6) (hT : Tab w) (hc : min (max x 0) 385 = 385) :
  CR_ 122 #[W a, .int .i64 x] w (.tuple #[W (0), .int .i64 (-1), .bool (decide (a = 0))]) := by
 have sa := limbs_size a
 have HA := Lib.hid ha
 have HT := Lib.hid hT
 obtain ⟨z, hz⟩ : ∃ z, decide (a = 0) = z := ⟨_, rfl⟩
 rw [hz]
 clear ha hT
 go_enter Tryz.func122, Tryz.ntmps122
 go_wp2_with fail
 refine (wideRight_big a _ HA.out (HT.out.below (((Below.refl _ _).alloc (Nat.le_refl _) _).alloc (by simp) _))).mono ?_
 rw [hz]
 rintro e w1 ⟨rfl, hb1⟩
 have b4 : Blk 60 w1 (w.heap.size + 1) (limbs 0) := by
  rw [limbs_zero]
  have := (Blk.new (T := 60) (w.alloc (.cells (limbs a) 60)) #[.int .u64 0, .int .u64 0, .int .u64 0, .int .u64 0, .int .u64 0, .int .u64 0]).below hb1 (by simp)
  simpa using this
 obtain ⟨f0, f1, f2, f3, f4, f5⟩ := b4.six_free
 obtain ⟨d0, d1, d2, d3, d4, d5⟩ := b4.six
 go_upto_region 3 with (fail)
 have hb := below_put6 (((((Below.refl w.heap.size w).alloc (Nat.le_refl _) _).alloc (by simp) _).trans (hb1.mono (by simp <;> omega)))) (by omega : w.heap.size ≤ w.heap.size + 1) (0)
 replace b4 := b4.put6 rfl (0)
 clear f0 f1 f2 f3 f4 f5 d0 d1 d2 d3 d4 d5 hb1
 change Code.wp _ _ _ _ (put6 w1 (w.heap.size + 1) (0))
 generalize put6 w1 (w.heap.size + 1) (0) = u at *
 obtain ⟨f0, f1, f2, f3, f4, f5⟩ := b4.six_free
 obtain ⟨d0, d1, d2, d3, d4, d5⟩ := b4.six
 go_wp2_with fail
 have hk := b4.again
 unfold put6 at hk
 rw [hk]
 exact bodyPost_ret (v := .tuple #[W (0), .int .i64 (-1), .bool (z)]) v1_ rfl ⟨rfl, hb⟩
theorem jamCut_any (a : Nat) (x : Int) (w : World) (ha : a < top6) (hT : Tab w) :
  CR_ 122 #[W a, .int .i64 x] w (.tuple #[W (a / 2 ^ x.toNat), .int .i64 (halfN a x.toNat), .bool (decide (a % 2 ^ x.toNat = 0))]) := by
 by_cases h0 : x ≤ 0
 ·have := jamCut_zero a x w ha hT (by omega)
  rw [show x.toNat = 0 by omega, Nat.pow_zero, Nat.div_one, Nat.mod_one]
  exact this
 ·by_cases h1 : x ≤ 384
  ·have := jamCut_in a (x.toNat - 1) w ha hT (by omega)
   rw [show ((x.toNat - 1 : Nat) : Int) + 1 = x by omega, show x.toNat - 1 + 1 = x.toNat by omega] at this
   exact this
  ·have := jamCut_big a x w ha hT (by omega)
   rw [div_pow_big a _ ha (by omega), mod_pow_big a _ ha (by omega)]
   unfold halfN
   rw [if_neg (by omega), testBit_big a _ ha (by omega)]
   exact this
end Go.Proofs.YtgmhmpflmgfcdaaGreatDoor
