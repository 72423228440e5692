/- Part 31 of what is proved: Tca, Lqt, Dor. -/
import Derived.Test.YtgmhmpflmgfcdaaGreatDoorRows
import Derived.Test.YtgmhmpflmgfcdaaGreatDoorTie
import Derived.Test.YtgmhmpflmgfcdaaGreatDoorCards
import Derived.WalkKit
import Derived.ProofKit
import Derived.LaidMore
import Derived.OpenShut
import Derived.Stop.Joined
import Derived.SevenTiedAt
import Derived.Lib.SmallJoins
import Derived.ChangeOld
import Derived.Below
import Derived.Carry
import Derived.Test.YtgmhmpflmgfcdaaGreatDoorHt1
import Derived.Test.YtgmhmpflmgfcdaaGreatDoorHt2
import Derived.Test.YtgmhmpflmgfcdaaGreatDoorHt3
import Derived.Test.YtgmhmpflmgfcdaaGreatDoorHt5
import Derived.Test.YtgmhmpflmgfcdaaGreatDoorHt29
import Derived.Test.YtgmhmpflmgfcdaaGreatDoorHt30
set_option linter.unusedSimpArgs false
set_option linter.unusedVariables false
set_option linter.unnecessarySimpa false
set_option maxRecDepth 100000
set_option maxHeartbeats 1600000
namespace Go.Proofs.YtgmhmpflmgfcdaaGreatDoor
open Go.RowKit
theorem ret_conv {x x' fl fl' : Nat} {d d' : Int} {e : Ending} {P : Prop} (h1 : x = x') (h2 : fl = fl') (h3 : d = d') (k : e = .returned (.tuple #[.int .u64 (x : Nat), .int .u8 (fl : Nat), .int .i64 d]) ∧ P) :
    e = .returned (.tuple #[.int .u64 (x' : Nat), .int .u8 (fl' : Nat), .int .i64 d']) ∧ P := by subst h1 h2 h3; exact k
theorem cmpN_pos (a b : Nat) : 0 < cmpN a b ↔ b < a := by
  unfold cmpN
  split
  · constructor <;> intro h <;> omega
  · split
    · constructor <;> intro h <;> omega
    · constructor <;> intro h <;> omega
theorem lowK_lt (k : Nat) : lowK k < 18446744073709551616 ∧ highK k < 18446744073709551616 := by
  match k with
  | 0 => decide
  | 1 => decide
  | 2 => decide
  | k + 3 => exact ⟨by show (0 : Nat) < _; decide, by show (18446744073709551615 : Nat) < _; decide⟩
theorem lt_top64 (x : Nat) (h : x < 18446744073709551616) : x < top6 := lt_top113 x (by omega)
theorem limb_zero_mod (n : Nat) : limb n 0 = ((n % 18446744073709551616 : Nat) : Int) := by unfold limb limbN; rw [Nat.mul_zero, Nat.pow_zero, Nat.div_one]
theorem wholeN_lt (f m a : Nat) (h : wholeE f m a = 0) : wholeN f m a < top6 := by
  unfold wholeN; rw [decide_eq_true h]
  show (wholeG f m a).1 < top6
  unfold wholeE at h
  rcases Nat.lt_or_ge (wholeG f m a).1 top6 with hl | hg
  · exact hl
  · rw [decide_eq_true hg] at h
    exfalso; revert h
    cases fitsB f a && decide (m < 5) <;> cases noFin (clsN f a) <;> simp
theorem tointConvert_any (k f m a : Nat) (w : World) (hk8 : k < 256) (hf8 : f < 256) (hm : m < 256) (ha : a < 2 ^ (64 * 2)) (hT : Tab w) :
    Calls Tryz.prog 12 #[.int .u8 k, .int .u8 f, .int .u8 m, BV a] w fun e w' => e = .returned (.tuple #[.int .u64 ((convN k f m a).1 : Nat), .int .u8 ((convN k f m a).2.1 : Nat), .int .i64 (convN k f m a).2.2]) ∧ Below w.heap.size w w' := by
  by_cases hk : k < 4
  · have cE := fun w => tointEnds_any k w hk
    have cW := fun w hT => tointWhole_any f m a w hm ha hT
    have hl := lowK_lt k
    by_cases h2 : wholeE f m a = 2
    · have hok : convOk k f m a = false := by unfold convOk; rw [(wholeE_two f m a).1 h2, Bool.and_false]
      rw [h2] at cW
      refine (tointConvert_arg k f m a _ _ _ _ _ w hT hk cW cE).mono fun e w' k => ret_conv (x := 0) (fl := 0) ?_ ?_ ?_ k
      · unfold convN; rw [hok]; rfl
      · unfold convN; rw [hok]; rfl
      · unfold convN; rw [hok]; rfl
    · have hfm : (fitsB f a && decide (m < 5)) = true := by
        cases h : fitsB f a && decide (m < 5)
        · exact absurd ((wholeE_two f m a).2 h) h2
        · rfl
      have hok : convOk k f m a = true := by unfold convOk; rw [hfm, decide_eq_true hk]; rfl
      have hfit : fitsB f a = true := by cases h : fitsB f a; rw [h] at hfm; cases hfm; rfl
      have cR : convN k f m a = ((convR k f m a).1, (convR k f m a).2, 0) := by unfold convN; rw [hok]; rfl
      rw [cR]
      by_cases h0 : wholeE f m a = 0
      · have hn := wholeN_lt f m a h0
        rw [h0] at cW
        cases hneg : wholeNeg f m a
        · rw [hneg] at cW
          have cO := fun w => wideOf_any (highK k) w hl.2
          have cQ := fun w => wideCmp_any (wholeN f m a) (highK k) w hn (lt_top64 _ hl.2)
          by_cases hout : highK k < wholeN f m a
          · have hR : convR k f m a = (toldN k false (highK k), 16) := by unfold convR; rw [if_pos h0, hneg, if_neg (by simp), if_pos ⟨rfl, hout⟩]
            have cT := fun w => tointTold_any k (highK k) false w hk hl.2
            exact (tointConvert_out_f k f m a _ _ _ _ _ _ w hT hk ((cmpN_pos _ _).2 hout) cW cE cO cQ cT).mono fun e w' k => ret_conv (fl := 16) (by rw [hR]) (by rw [hR]) rfl k
          · have hR : convR k f m a = (toldN k false (wholeN f m a % 18446744073709551616), cond (wholeX f m a) 0 1) := by unfold convR; rw [if_pos h0, hneg, if_neg (by simp), if_neg (by simp; omega)]
            have cT := fun w => tointTold_any k (wholeN f m a % 18446744073709551616) false w hk (Nat.mod_lt _ (by decide))
            rw [← limb_zero_mod] at cT
            cases hx : wholeX f m a
            · rw [hx] at cW hR
              exact (tointConvert_in_ff k f m a _ _ _ _ _ w hT hk (fun h => hout ((cmpN_pos _ _).1 h)) cW cE cO cQ cT).mono fun e w' k => ret_conv (fl := 1) (by rw [hR]) (by rw [hR]; rfl) rfl k
            · rw [hx] at cW hR
              exact (tointConvert_in_ft k f m a _ _ _ _ _ w hT hk (fun h => hout ((cmpN_pos _ _).1 h)) cW cE cO cQ cT).mono fun e w' k => ret_conv (fl := 0) (by rw [hR]) (by rw [hR]; rfl) rfl k
        · rw [hneg] at cW
          have cO := fun w => wideOf_any (lowK k) w hl.1
          have cQ := fun w => wideCmp_any (wholeN f m a) (lowK k) w hn (lt_top64 _ hl.1)
          by_cases hout : lowK k < wholeN f m a
          · have hR : convR k f m a = (toldN k true (lowK k), 16) := by unfold convR; rw [if_pos h0, hneg, if_pos ⟨rfl, hout⟩]
            have cT := fun w => tointTold_any k (lowK k) true w hk hl.1
            exact (tointConvert_out_t k f m a _ _ _ _ _ _ w hT hk ((cmpN_pos _ _).2 hout) cW cE cO cQ cT).mono fun e w' k => ret_conv (fl := 16) (by rw [hR]) (by rw [hR]) rfl k
          · have hR : convR k f m a = (toldN k true (wholeN f m a % 18446744073709551616), cond (wholeX f m a) 0 1) := by unfold convR; rw [if_pos h0, hneg, if_neg (by simp; omega), if_neg (by simp)]
            have cT := fun w => tointTold_any k (wholeN f m a % 18446744073709551616) true w hk (Nat.mod_lt _ (by decide))
            rw [← limb_zero_mod] at cT
            cases hx : wholeX f m a
            · rw [hx] at cW hR
              exact (tointConvert_in_tf k f m a _ _ _ _ _ w hT hk (fun h => hout ((cmpN_pos _ _).1 h)) cW cE cO cQ cT).mono fun e w' k => ret_conv (fl := 1) (by rw [hR]) (by rw [hR]; rfl) rfl k
            · rw [hx] at cW hR
              exact (tointConvert_in_tt k f m a _ _ _ _ _ w hT hk (fun h => hout ((cmpN_pos _ _).1 h)) cW cE cO cQ cT).mono fun e w' k => ret_conv (fl := 0) (by rw [hR]) (by rw [hR]; rfl) rfl k
      · have cC := fun w hT => kindClass_any f a w hf8 ha hT
        rw [hfit] at cC
        have b2 : (wholeE f m a == 2) = false := by simpa using h2
        have b0 : (wholeE f m a == 0) = false := by simpa using h0
        cases hb : belowN4 (clsN f a)
        · have hR : convR k f m a = (toldN k false (highK k), 16) := by unfold convR; rw [if_neg h0, hb]; rfl
          have cT := fun w => tointTold_any k (highK k) false w hk hl.2
          have hc : ¬ ((cond true (clsN f a) 0 : Nat) : Int) < 4 := by unfold belowN4 at hb; have := of_decide_eq_false hb; show ¬ ((clsN f a : Nat) : Int) < 4; omega
          exact (tointConvert_none_f k f m a _ _ _ _ _ _ _ _ _ w hT hk b2 b0 hc cW cE cC cT).mono fun e w' k => ret_conv (fl := 16) (by rw [hR]) (by rw [hR]) rfl k
        · have hR : convR k f m a = (toldN k true (lowK k), 16) := by unfold convR; rw [if_neg h0, hb]; rfl
          have cT := fun w => tointTold_any k (lowK k) true w hk hl.1
          have hc : ((cond true (clsN f a) 0 : Nat) : Int) < 4 := by unfold belowN4 at hb; have := of_decide_eq_true hb; show ((clsN f a : Nat) : Int) < 4; omega
          exact (tointConvert_none_t k f m a _ _ _ _ _ _ _ _ _ w hT hk b2 b0 hc cW cE cC cT).mono fun e w' k => ret_conv (fl := 16) (by rw [hR]) (by rw [hR]) rfl k
  · have hok : convOk k f m a = false := by unfold convOk; rw [decide_eq_false hk]; rfl
    refine (tointConvert_kind k f m a w (by omega)).mono fun e w' k => ret_conv (x := 0) (fl := 0) ?_ ?_ ?_ k
    · unfold convN; rw [hok]; rfl
    · unfold convN; rw [hok]; rfl
    · unfold convN; rw [hok]; rfl
open Go.RowKit Go.Proofs.YtgmhmpflmgfcdaaGreatDoorW.PrintWords Go.Proofs.YtgmhmpflmgfcdaaGreatDoor.PDivQuotients
theorem tointConverts_alive (w : World) (hT : Tab w) (cA : CT_ 12 #[.int .u8 0, .int .u8 2, .int .u8 1, .agg #[.int .u64 0, .int .u64 48128]] (.tuple #[.int .u64 18446744073709551615, .int .u8 0, .int .i64 0])) :
    Calls Tryz.prog 14 #[] w fun e w' => e = .returned (.bool true) ∧ Below w.heap.size w w' := by
  have H := Own.start w
  have HT := Lib.hid hT
  clear hT
  go_enter Tryz.func14, Tryz.ntmps14
  exact walk2
theorem tointConverts_alive_any (w : World) (hT : Tab w) : Calls Tryz.prog 14 #[] w fun e w' => e = .returned (.bool true) ∧ Below w.heap.size w w' := by
  refine tointConverts_alive w hT fun w hT => ?_
  have := tointConvert_any 0 2 1 48128 w (by decide) (by decide) (by decide) (by decide) hT
  rw [show convN 0 2 1 48128 = (18446744073709551615, 0, 0) by decide +kernel] at this
  exact this
set_option maxHeartbeats 3200000 in
theorem tointConverts_w (k f m a y : Nat) (fl e0 : Int) (w : World) (hT : Tab w) (cA : CT_ 12 #[.int .u8 k, .int .u8 f, .int .u8 m, BV a] (.tuple #[.int .u64 (y : Nat), .int .u8 fl, .int .i64 e0])) (cR : CK_ 13 #[.int .u8 k, .int .u8 f, .int .u8 m, BV a] (.tuple #[.int .u64 (y : Nat), .int .u8 fl, .int .i64 e0]))  :
    Calls Tryz.prog 3 #[.int .u8 k, .int .u8 f, .int .u8 m, BV a] w fun e w' => e = .returned (.bool true) ∧ Below w.heap.size w w' := by
  have H := Own.start w
  have HT := Lib.hid hT
  clear hT
  go_enter Tryz.func3, Tryz.ntmps3
  exact walk2
theorem tointConverts_any (k f m a : Nat) (w : World) (hk : k < 256) (hf : f < 256) (hm : m < 256) (ha : a < 2 ^ (64 * 2)) (hT : Tab w) :
    Calls Tryz.prog 3 #[.int .u8 k, .int .u8 f, .int .u8 m, BV a] w fun e w' => e = .returned (.bool true) ∧ Below w.heap.size w w' :=
  tointConverts_w k f m a _ _ _ w hT (fun w hT => tointConvert_any k f m a w hk hf hm ha hT) (fun w => r19Convert_any k f m a w ha)
open Go.ChangeShapes Go.WideShapes Go.ChangeAt Go.RowKit
theorem own : ownKnob Tryz.prog.godebug = none := by kernel_rfl
theorem laidOut : laidOutB Tryz.prog = true := by kernel_rfl
def laidL : List (String × DataW Unit) := [("math/bits.deBruijn64tab", Rows.laid_math_bits_deBruijn64tab)]
theorem gTab : Tryz.prog.globalNamed "math/bits.deBruijn64tab" = some 0 := by kernel_rfl
theorem tTab : (Tryz.prog.globals[0]?).map (·.type) = some 208 := by kernel_rfl
theorem ren1 : Tryz.lays29_ren.g 1 = 0 := rfl
theorem door_met (os : Os) (args : Array Value) : laidMetH Tryz.prog laidL ((World.doorLaid Tryz.prog 400 os).forCall (fun _ _ => 0) ⟨#[], args, []⟩).memory :=
  laidMetH_of_parts3 (fuel := 8) (laidMet_of_run' 8 (by kernel_rfl) (by kernel_rfl)) (by kernel_rfl) (by kernel_rfl)
theorem datum_map {H : Type} : (Rows.laid_math_bits_deBruijn64tab : DataW H) = .agg (Lib.deBruijn64tab.map fun x => .lit (.int .u8 (x : Nat))) := rfl
theorem tab_len : Lib.deBruijn64tab.length = 64 := by decide
theorem tab_of_laid {W : World} (h : laidMetH Tryz.prog laidL W) : Tab W := by
  rw [MakeChecks.laidMetH_plain _ _ _ (by kernel_rfl)] at h
  obtain ⟨ps, ⟨g0, t0, cs0, f0, p0, q0, hg0, ht0, hv0, hd0, _, _⟩, _, _⟩ := h
  obtain rfl := Option.some.inj (gTab.symm.trans hg0)
  obtain rfl := Option.some.inj (tTab.symm.trans ht0)
  obtain ⟨xs, m1, rfl, hx1, hlen, hn, hel⟩ := DataW.trod_array Tryz.underlying208 hd0
  have c1 : Tryz.prog.cellsOf 5 = 1 := by kernel_rfl
  rw [c1] at hel
  simp only [Prod.mk.injEq, datum_map, DataW.agg.injEq] at hx1
  intro j hj
  rw [ren1]
  have hj64 : j < 64 := by rw [tab_len] at hj; exact hj
  have hcell := World.var?_cell hg0 hv0 j
  rw [hcell]
  have h1 := hel j hj64
  have hxj : xs[j]? = some xs[j] := List.getElem?_eq_getElem (by omega)
  rw [hxj, Nat.mul_one] at h1
  obtain ⟨n, e1, e2, _⟩ := DataW.trod_int Tryz.underlying5 h1
  have hm : (xs.map (·.1))[j]? = some (.lit (.int .u8 n)) := by rw [List.getElem?_map, hxj, e2]; rfl
  rw [← hx1.1, List.getElem?_map, List.getElem?_eq_getElem hj] at hm
  simp only [Option.map_some, Option.some.injEq, DataW.lit.injEq, Lit.int.injEq, true_and] at hm
  have hget : cs0[j]? = some (.int .u8 n) := by
    have h2 : ((cs0.toList.drop j).take 1)[0]? = some (.int .u8 n) := by rw [e1]; rfl
    rw [List.getElem?_take_of_lt (by decide), List.getElem?_drop, Nat.add_zero, Array.getElem?_toList] at h2
    exact h2
  rw [hget, ← hm, List.getD_eq_getElem?_getD, List.getElem?_eq_getElem hj]; rfl
theorem two_words (x y : Nat) (hx : x < 18446744073709551616) (hy : y < 18446744073709551616) : ∃ b : Nat, Value.agg #[.int .u64 (x : Nat), .int .u64 (y : Nat)] = BV b ∧ b < 2 ^ (64 * 2) := by
  refine ⟨x * 18446744073709551616 + y, ?_, by omega⟩
  have h1 : limb (x * 18446744073709551616 + y) 1 = (x : Nat) := by
    show ((limbN (x * 18446744073709551616 + y) 1 : Nat) : Int) = x
    unfold limbN; rw [show 2 ^ (64 * 1) = 18446744073709551616 from rfl]; omega
  have h0 : limb (x * 18446744073709551616 + y) 0 = (y : Nat) := by
    show ((limbN (x * 18446744073709551616 + y) 0 : Nat) : Int) = y
    unfold limbN; rw [show 2 ^ (64 * 0) = 1 from rfl]; omega
  show Value.agg #[_, _] = .agg #[.int .u64 (limb _ 1), .int .u64 (limb _ 0)]
  rw [h1, h0]
theorem bits_cells : Tryz.prog.cellsOf 27 = 2 := by kernel_rfl
/-- An argument of 128 bits is the encoding of a number. -/
theorem open_bits {H : Type} {enc : TypeId × Value → H} {W : World} {r : Reach} {base b0 : Nat} {spare : Nat → Bool} {held : Bool} {v : Value} {d : DataW H} {p : List MemPlace}
    (hv : Value.okWide Tryz.prog W r b0 27 v) (h : DataW.Trod enc Tryz.prog W base spare held 27 v d p) : ∃ b : Nat, v = BV b ∧ b < 2 ^ (64 * 2) := by
  obtain ⟨c0, c1, y0, y1, m, rfl, rfl, rfl, hy0, hy1⟩ := Go.Joins.open_agg2 Tryz.underlying27 (by kernel_rfl) bits_cells hv h
  obtain ⟨x, e0, rfl, wx⟩ := DataW.trod_int Tryz.underlying25 hy0
  obtain ⟨y, e1, rfl, wy⟩ := DataW.trod_int Tryz.underlying25 hy1
  simp at e0 e1
  subst e0 e1
  have bx := bounds_u64 wx
  have bY := bounds_u64 wy
  obtain ⟨x, rfl⟩ := Int.eq_ofNat_of_zero_le bx.1
  obtain ⟨y, rfl⟩ := Int.eq_ofNat_of_zero_le bY.1
  exact two_words x y (by omega) (by omega)
theorem nat_u8 {x : Int} (h : (Lit.int .u8 x).wf = true) : ∃ n : Nat, x = n ∧ n < 256 := by
  have b := bounds_u8 h
  obtain ⟨n, rfl⟩ := Int.eq_ofNat_of_zero_le b.1
  exact ⟨n, rfl, by omega⟩
end Go.Proofs.YtgmhmpflmgfcdaaGreatDoor
