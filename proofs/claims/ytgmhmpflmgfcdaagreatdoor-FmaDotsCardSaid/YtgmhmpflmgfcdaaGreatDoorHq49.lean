/- Part 49 of the proof. -/
import Derived.Test.YtgmhmpflmgfcdaaGreatDoorRows
import Derived.Test.YtgmhmpflmgfcdaaGreatDoorTie
import Derived.Test.YtgmhmpflmgfcdaaGreatDoorCards
import Derived.WalkKit
import Derived.ProofKit
import Derived.LaidMore
import Derived.OpenShut
import Derived.Stop.Joined
import Derived.SevenTiedAt
import Derived.Lib.SmallJoins
import Derived.ChangeOld
import Derived.Below
import Derived.Carry
import Derived.Test.YtgmhmpflmgfcdaaGreatDoorHq5
import Derived.Test.YtgmhmpflmgfcdaaGreatDoorHq6
import Derived.Test.YtgmhmpflmgfcdaaGreatDoorHq8
set_option linter.unusedSimpArgs false
set_option linter.unusedVariables false
set_option linter.unnecessarySimpa false
set_option maxRecDepth 100000
set_option maxHeartbeats 3200000
namespace Go.Proofs.YtgmhmpflmgfcdaaGreatDoor
open Go.ChangeShapes Go.WideShapes Go.ChangeAt Go.RowKit
theorem own : ownKnob Tryz.prog.godebug = none := by kernel_rfl
theorem laidOut : laidOutB Tryz.prog = true := by kernel_rfl
def laidL : List (String × DataW Unit) := [("math/bits.deBruijn64tab", Rows.laid_math_bits_deBruijn64tab)]
theorem gTab : Tryz.prog.globalNamed "math/bits.deBruijn64tab" = some 0 := by kernel_rfl
theorem tTab : (Tryz.prog.globals[0]?).map (·.type) = some 208 := by kernel_rfl
theorem ren1 : Tryz.lays29_ren.g 1 = 0 := rfl
theorem door_met (os : Os) (args : Array Value) : laidMetH Tryz.prog laidL ((World.doorLaid Tryz.prog 400 os).forCall (fun _ _ => 0) ⟨#[], args, []⟩).memory :=
 laidMetH_of_parts3 (fuel := 8) (laidMet_of_run' 8 (by kernel_rfl) (by kernel_rfl)) (by kernel_rfl) (by kernel_rfl)
theorem datum_map {H : Type} : (Rows.laid_math_bits_deBruijn64tab : DataW H) = .agg (Lib.deBruijn64tab.map fun x => .lit (.int .u8 (x : Nat))) := rfl
theorem tab_len : Lib.deBruijn64tab.length = 64 := by decide
theorem tab_of_laid {W : World} (h : laidMetH Tryz.prog laidL W) : Tab W := by
 rw [MakeChecks.laidMetH_plain _ _ _ (by kernel_rfl)] at h
 obtain ⟨ps, ⟨g0, t0, cs0, f0, p0, q0, hg0, ht0, hv0, hd0, _, _⟩, _, _⟩ := h
 obtain rfl := Option.some.inj (gTab.symm.trans hg0)
 obtain rfl := Option.some.inj (tTab.symm.trans ht0)
 obtain ⟨xs, m1, rfl, hx1, hlen, hn, hel⟩ := DataW.trod_array Tryz.underlying208 hd0
 have c1 : Tryz.prog.cellsOf 5 = 1 := by kernel_rfl
 rw [c1] at hel
 simp only [Prod.mk.injEq, datum_map, DataW.agg.injEq] at hx1
 intro j hj
 rw [ren1]
 have hj64 : j < 64 := by rw [tab_len] at hj; exact hj
 have hcell := World.var?_cell hg0 hv0 j
 rw [hcell]
 have h1 := hel j hj64
 have hxj : xs[j]? = some xs[j] := List.getElem?_eq_getElem (by omega)
 rw [hxj, Nat.mul_one] at h1
 obtain ⟨n, e1, e2, _⟩ := DataW.trod_int Tryz.underlying5 h1
 have hm : (xs.map (·.1))[j]? = some (.lit (.int .u8 n)) := by rw [List.getElem?_map, hxj, e2]; rfl
 rw [← hx1.1, List.getElem?_map, List.getElem?_eq_getElem hj] at hm
 simp only [Option.map_some, Option.some.injEq, DataW.lit.injEq, Lit.int.injEq, true_and] at hm
 have hget : cs0[j]? = some (.int .u8 n) := by
  have h2 : ((cs0.toList.drop j).take 1)[0]? = some (.int .u8 n) := by rw [e1]; rfl
  rw [List.getElem?_take_of_lt (by decide), List.getElem?_drop, Nat.add_zero, Array.getElem?_toList] at h2
  exact h2
 rw [hget, ← hm, List.getD_eq_getElem?_getD, List.getElem?_eq_getElem hj]; rfl
theorem two_words (x y : Nat) (hx : x < 18446744073709551616) (hy : y < 18446744073709551616) : ∃ b : Nat, Value.agg #[.int .u64 (x : Nat), .int .u64 (y : Nat)] = BV b ∧ b < 2 ^ (64 * 2) := by
 refine ⟨x * 18446744073709551616 + y, ?_, by omega⟩
 have h1 : limb (x * 18446744073709551616 + y) 1 = (x : Nat) := by
  show ((limbN (x * 18446744073709551616 + y) 1 : Nat) : Int) = x
  unfold limbN; rw [show 2 ^ (64 * 1) = 18446744073709551616 from rfl]; omega
 have h0 : limb (x * 18446744073709551616 + y) 0 = (y : Nat) := by
  show ((limbN (x * 18446744073709551616 + y) 0 : Nat) : Int) = y
  unfold limbN; rw [show 2 ^ (64 * 0) = 1 from rfl]; omega
 show Value.agg #[_, _] = .agg #[.int .u64 (limb _ 1), .int .u64 (limb _ 0)]
 rw [h1, h0]
theorem bits_cells : Tryz.prog.cellsOf 27 = 2 := by kernel_rfl
/-- An argument of 128 bits is the encoding of a number. -/
theorem open_bits {H : Type} {enc : TypeId × Value → H} {W : World} {r : Reach} {base b0 : Nat} {spare : Nat → Bool} {held : Bool} {v : Value} {d : DataW H} {p : List MemPlace}
  (hv : Value.okWide Tryz.prog W r b0 27 v) (h : DataW.Trod enc Tryz.prog W base spare held 27 v d p) : ∃ b : Nat, v = BV b ∧ b < 2 ^ (64 * 2) := by
 obtain ⟨c0, c1, y0, y1, m, rfl, rfl, rfl, hy0, hy1⟩ := Go.Joins.open_agg2 Tryz.underlying27 (by kernel_rfl) bits_cells hv h
 obtain ⟨x, e0, rfl, wx⟩ := DataW.trod_int Tryz.underlying25 hy0
 obtain ⟨y, e1, rfl, wy⟩ := DataW.trod_int Tryz.underlying25 hy1
 simp at e0 e1
 subst e0 e1
 have bx := bounds_u64 wx
 have bY := bounds_u64 wy
 obtain ⟨x, rfl⟩ := Int.eq_ofNat_of_zero_le bx.1
 obtain ⟨y, rfl⟩ := Int.eq_ofNat_of_zero_le bY.1
 exact two_words x y (by omega) (by omega)
theorem nat_u8 {x : Int} (h : (Lit.int .u8 x).wf = true) : ∃ n : Nat, x = n ∧ n < 256 := by
 have b := bounds_u8 h
 obtain ⟨n, rfl⟩ := Int.eq_ofNat_of_zero_le b.1
 exact ⟨n, rfl, by omega⟩
end Go.Proofs.YtgmhmpflmgfcdaaGreatDoor
