/- Part 40 of the proof. -/
import Derived.Test.YtgmhmpflmgfcdaaGreatDoorHq4
import Derived.Test.YtgmhmpflmgfcdaaGreatDoorHq5
import Derived.Test.YtgmhmpflmgfcdaaGreatDoorHq37
set_option linter.unusedSimpArgs false
set_option linter.unusedVariables false
set_option linter.unnecessarySimpa false
set_option maxRecDepth 100000
set_option maxHeartbeats 3200000
namespace Go.Proofs.YtgmhmpflmgfcdaaGreatDoor
open Go.RowKit
theorem roundPack_x_f (f m s p l E k lk z n1 n2 n3 bb : Nat) (e top lo : Int) (neg lo1 lo2 lo3 : Bool) (w : World) (hT : Tab w) (hp : p ≤ 113) (h1 : -1048576 ≤ e) (h2 : e ≤ 1048576) (hl4 : l ≤ 384) (cP : CK_ 79 #[.int .u8 f] (.int .i64 (p : Nat))) (cR : ∀ w, Calls Tryz.prog 140 #[.int .u8 f, .int .u8 m] w fun e w' => e = .returned (.bool true) ∧ w = w') (cL : CK_ 80 #[W s] (.int .i64 (l : Nat))) (hs : s < top6) (hs0 : decide (s = 0) = false) (htop : (l : Int) - 1 + e = top) (l1 : -20000 ≤ lo) (l2 : lo ≤ 20000) (t1 : -1100000 ≤ top) (t2 : top ≤ 1100000) (hE : E ≤ 16383) (cE : CK_ 141 #[.int .u8 f] (.int .i64 lo)) (cX : CK_ 142 #[.int .u8 f] (.int .i64 (E : Nat))) (hlk : lk ≤ 384) (hov : ¬ (E : Int) < top) (hov2 : ¬ (E : Int) < (lk : Int) - 1 + (max top lo - (p : Int) + 1)) (cG : CT_ 144 #[.int .u8 m, RV neg s e false, .int .i64 (max top lo - (p : Int) + 1)] (.tuple #[W k, .bool true])) (cK : CK_ 80 #[W k] (.int .i64 (lk : Nat))) (cOf : CK_ 47 #[.int .u64 (max top lo - (p : Int) + 1 - lo + (p : Int) - 1)] (W n1)) (cLf : CK_ 101 #[W n1, .int .i64 ((p : Int) - 1)] (.tuple #[W n2, .bool lo1])) (cAd : CK_ 104 #[W n2, W k] (.tuple #[W n3, .bool lo2])) (cB : CK_ 146 #[W n3] (.tuple #[BV bb, .bool lo3])) (cZ : CK_ 78 #[.int .u8 f, .bool neg] (BV z))  :
  CR_ 61 #[.int .u8 f, .int .u8 m, RV neg s e false] w (.tuple #[.agg #[.int .u64 (Go.bits .or .u64 (limb bb 1) (limb z 1)), .int .u64 (Go.bits .or .u64 (limb bb 0) (limb z 0))], .int .u8 0, .int .i64 0]) := by
 have H := Own.start w
 have HT := Lib.hid hT
 clear hT
 have he2 : decide (e < -1048576) = false := by simp; omega
 have he3 : decide (1048576 < e) = false := by simp; omega
 have eq1 : ∀ w, (Op.equalIn 10000 60 (.agg (limbs s)) (.agg #[.int .u64 0, .int .u64 0, .int .u64 0, .int .u64 0, .int .u64 0, .int .u64 0])).run Tryz.prog w = .ok false w := fun w => (run_equal_zero w s hs).trans (by rw [hs0])
 have v1 : IntKind.i64.wrap ((l : Int) - 1) = (l : Int) - 1 := IntWalk.i64_in _ (by omega)
 have v2 : IntKind.i64.wrap ((l : Int) - 1 + e) = top := by rw [htop]; exact IntWalk.i64_in _ (by omega)
 clear hs hs0 htop
 have hov3 : decide ((E : Int) < top) = false := by simp; omega
 have hov4 : decide ((E : Int) < (lk : Int) - 1 + (max top lo - (p : Int) + 1)) = false := by simp only [decide_eq_false_iff_not]; exact hov2
 go_enter Tryz.func61, Tryz.ntmps61
 exact walk2
theorem roundPack_i_f (f m s p l E k lk z n1 n2 n3 bb : Nat) (e top lo : Int) (neg lo1 lo2 lo3 : Bool) (w : World) (hT : Tab w) (hp : p ≤ 113) (h1 : -1048576 ≤ e) (h2 : e ≤ 1048576) (hl4 : l ≤ 384) (cP : CK_ 79 #[.int .u8 f] (.int .i64 (p : Nat))) (cR : ∀ w, Calls Tryz.prog 140 #[.int .u8 f, .int .u8 m] w fun e w' => e = .returned (.bool true) ∧ w = w') (cL : CK_ 80 #[W s] (.int .i64 (l : Nat))) (hs : s < top6) (hs0 : decide (s = 0) = false) (htop : (l : Int) - 1 + e = top) (l1 : -20000 ≤ lo) (l2 : lo ≤ 20000) (t1 : -1100000 ≤ top) (t2 : top ≤ 1100000) (hE : E ≤ 16383) (cE : CK_ 141 #[.int .u8 f] (.int .i64 lo)) (cX : CK_ 142 #[.int .u8 f] (.int .i64 (E : Nat))) (hlk : lk ≤ 384) (hov : ¬ (E : Int) < top) (hov2 : ¬ (E : Int) < (lk : Int) - 1 + (max top lo - (p : Int) + 1)) (cG : CT_ 144 #[.int .u8 m, RV neg s e false, .int .i64 (max top lo - (p : Int) + 1)] (.tuple #[W k, .bool false])) (cK : CK_ 80 #[W k] (.int .i64 (lk : Nat))) (cOf : CK_ 47 #[.int .u64 (max top lo - (p : Int) + 1 - lo + (p : Int) - 1)] (W n1)) (cLf : CK_ 101 #[W n1, .int .i64 ((p : Int) - 1)] (.tuple #[W n2, .bool lo1])) (cAd : CK_ 104 #[W n2, W k] (.tuple #[W n3, .bool lo2])) (cB : CK_ 146 #[W n3] (.tuple #[BV bb, .bool lo3])) (cZ : CK_ 78 #[.int .u8 f, .bool neg] (BV z)) (cT : CT_ 145 #[.int .u8 f, .int .u8 m, RV neg s e false, .int .i64 top] (.bool false))  :
  CR_ 61 #[.int .u8 f, .int .u8 m, RV neg s e false] w (.tuple #[.agg #[.int .u64 (Go.bits .or .u64 (limb bb 1) (limb z 1)), .int .u64 (Go.bits .or .u64 (limb bb 0) (limb z 0))], .int .u8 (Go.bits .or .u8 0 1), .int .i64 0]) := by
 have H := Own.start w
 have HT := Lib.hid hT
 clear hT
 have he2 : decide (e < -1048576) = false := by simp; omega
 have he3 : decide (1048576 < e) = false := by simp; omega
 have eq1 : ∀ w, (Op.equalIn 10000 60 (.agg (limbs s)) (.agg #[.int .u64 0, .int .u64 0, .int .u64 0, .int .u64 0, .int .u64 0, .int .u64 0])).run Tryz.prog w = .ok false w := fun w => (run_equal_zero w s hs).trans (by rw [hs0])
 have v1 : IntKind.i64.wrap ((l : Int) - 1) = (l : Int) - 1 := IntWalk.i64_in _ (by omega)
 have v2 : IntKind.i64.wrap ((l : Int) - 1 + e) = top := by rw [htop]; exact IntWalk.i64_in _ (by omega)
 clear hs hs0 htop
 have hov3 : decide ((E : Int) < top) = false := by simp; omega
 have hov4 : decide ((E : Int) < (lk : Int) - 1 + (max top lo - (p : Int) + 1)) = false := by simp only [decide_eq_false_iff_not]; exact hov2
 go_enter Tryz.func61, Tryz.ntmps61
 exact walk2
theorem roundPack_u_f (f m s p l E k lk z n1 n2 n3 bb : Nat) (e top lo : Int) (neg lo1 lo2 lo3 : Bool) (w : World) (hT : Tab w) (hp : p ≤ 113) (h1 : -1048576 ≤ e) (h2 : e ≤ 1048576) (hl4 : l ≤ 384) (cP : CK_ 79 #[.int .u8 f] (.int .i64 (p : Nat))) (cR : ∀ w, Calls Tryz.prog 140 #[.int .u8 f, .int .u8 m] w fun e w' => e = .returned (.bool true) ∧ w = w') (cL : CK_ 80 #[W s] (.int .i64 (l : Nat))) (hs : s < top6) (hs0 : decide (s = 0) = false) (htop : (l : Int) - 1 + e = top) (l1 : -20000 ≤ lo) (l2 : lo ≤ 20000) (t1 : -1100000 ≤ top) (t2 : top ≤ 1100000) (hE : E ≤ 16383) (cE : CK_ 141 #[.int .u8 f] (.int .i64 lo)) (cX : CK_ 142 #[.int .u8 f] (.int .i64 (E : Nat))) (hlk : lk ≤ 384) (hov : ¬ (E : Int) < top) (hov2 : ¬ (E : Int) < (lk : Int) - 1 + (max top lo - (p : Int) + 1)) (cG : CT_ 144 #[.int .u8 m, RV neg s e false, .int .i64 (max top lo - (p : Int) + 1)] (.tuple #[W k, .bool false])) (cK : CK_ 80 #[W k] (.int .i64 (lk : Nat))) (cOf : CK_ 47 #[.int .u64 (max top lo - (p : Int) + 1 - lo + (p : Int) - 1)] (W n1)) (cLf : CK_ 101 #[W n1, .int .i64 ((p : Int) - 1)] (.tuple #[W n2, .bool lo1])) (cAd : CK_ 104 #[W n2, W k] (.tuple #[W n3, .bool lo2])) (cB : CK_ 146 #[W n3] (.tuple #[BV bb, .bool lo3])) (cZ : CK_ 78 #[.int .u8 f, .bool neg] (BV z)) (cT : CT_ 145 #[.int .u8 f, .int .u8 m, RV neg s e false, .int .i64 top] (.bool true))  :
  CR_ 61 #[.int .u8 f, .int .u8 m, RV neg s e false] w (.tuple #[.agg #[.int .u64 (Go.bits .or .u64 (limb bb 1) (limb z 1)), .int .u64 (Go.bits .or .u64 (limb bb 0) (limb z 0))], .int .u8 (Go.bits .or .u8 (Go.bits .or .u8 0 1) 2), .int .i64 0]) := by
 have H := Own.start w
 have HT := Lib.hid hT
 clear hT
 have he2 : decide (e < -1048576) = false := by simp; omega
 have he3 : decide (1048576 < e) = false := by simp; omega
 have eq1 : ∀ w, (Op.equalIn 10000 60 (.agg (limbs s)) (.agg #[.int .u64 0, .int .u64 0, .int .u64 0, .int .u64 0, .int .u64 0, .int .u64 0])).run Tryz.prog w = .ok false w := fun w => (run_equal_zero w s hs).trans (by rw [hs0])
 have v1 : IntKind.i64.wrap ((l : Int) - 1) = (l : Int) - 1 := IntWalk.i64_in _ (by omega)
 have v2 : IntKind.i64.wrap ((l : Int) - 1 + e) = top := by rw [htop]; exact IntWalk.i64_in _ (by omega)
 clear hs hs0 htop
 have hov3 : decide ((E : Int) < top) = false := by simp; omega
 have hov4 : decide ((E : Int) < (lk : Int) - 1 + (max top lo - (p : Int) + 1)) = false := by simp only [decide_eq_false_iff_not]; exact hov2
 go_enter Tryz.func61, Tryz.ntmps61
 exact walk2
theorem roundPack_x_t (f m s p l E k lk z n1 n2 n3 bb : Nat) (e top lo : Int) (neg lo1 lo2 lo3 : Bool) (w : World) (hT : Tab w) (hp : p ≤ 113) (h1 : -1048576 ≤ e) (h2 : e ≤ 1048576) (hl4 : l ≤ 384) (hl : ¬ l < p + 2) (cP : CK_ 79 #[.int .u8 f] (.int .i64 (p : Nat))) (cR : ∀ w, Calls Tryz.prog 140 #[.int .u8 f, .int .u8 m] w fun e w' => e = .returned (.bool true) ∧ w = w') (cL : CK_ 80 #[W s] (.int .i64 (l : Nat))) (hs : s < top6) (hs0 : decide (s = 0) = false) (htop : (l : Int) - 1 + e = top) (l1 : -20000 ≤ lo) (l2 : lo ≤ 20000) (t1 : -1100000 ≤ top) (t2 : top ≤ 1100000) (hE : E ≤ 16383) (cE : CK_ 141 #[.int .u8 f] (.int .i64 lo)) (cX : CK_ 142 #[.int .u8 f] (.int .i64 (E : Nat))) (hlk : lk ≤ 384) (hov : ¬ (E : Int) < top) (hov2 : ¬ (E : Int) < (lk : Int) - 1 + (max top lo - (p : Int) + 1)) (cG : CT_ 144 #[.int .u8 m, RV neg s e true, .int .i64 (max top lo - (p : Int) + 1)] (.tuple #[W k, .bool true])) (cK : CK_ 80 #[W k] (.int .i64 (lk : Nat))) (cOf : CK_ 47 #[.int .u64 (max top lo - (p : Int) + 1 - lo + (p : Int) - 1)] (W n1)) (cLf : CK_ 101 #[W n1, .int .i64 ((p : Int) - 1)] (.tuple #[W n2, .bool lo1])) (cAd : CK_ 104 #[W n2, W k] (.tuple #[W n3, .bool lo2])) (cB : CK_ 146 #[W n3] (.tuple #[BV bb, .bool lo3])) (cZ : CK_ 78 #[.int .u8 f, .bool neg] (BV z))  :
  CR_ 61 #[.int .u8 f, .int .u8 m, RV neg s e true] w (.tuple #[.agg #[.int .u64 (Go.bits .or .u64 (limb bb 1) (limb z 1)), .int .u64 (Go.bits .or .u64 (limb bb 0) (limb z 0))], .int .u8 0, .int .i64 0]) := by
 have H := Own.start w
 have HT := Lib.hid hT
 clear hT
 have he2 : decide (e < -1048576) = false := by simp; omega
 have he3 : decide (1048576 < e) = false := by simp; omega
 have hl2 : decide ((l : Int) < (p : Int) + 2) = false := by simp; omega
 have eq1 : ∀ w, (Op.equalIn 10000 60 (.agg (limbs s)) (.agg #[.int .u64 0, .int .u64 0, .int .u64 0, .int .u64 0, .int .u64 0, .int .u64 0])).run Tryz.prog w = .ok false w := fun w => (run_equal_zero w s hs).trans (by rw [hs0])
 have v1 : IntKind.i64.wrap ((l : Int) - 1) = (l : Int) - 1 := IntWalk.i64_in _ (by omega)
 have v2 : IntKind.i64.wrap ((l : Int) - 1 + e) = top := by rw [htop]; exact IntWalk.i64_in _ (by omega)
 clear hs hs0 htop
 have hov3 : decide ((E : Int) < top) = false := by simp; omega
 have hov4 : decide ((E : Int) < (lk : Int) - 1 + (max top lo - (p : Int) + 1)) = false := by simp only [decide_eq_false_iff_not]; exact hov2
 go_enter Tryz.func61, Tryz.ntmps61
 exact walk2
theorem roundPack_i_t (f m s p l E k lk z n1 n2 n3 bb : Nat) (e top lo : Int) (neg lo1 lo2 lo3 : Bool) (w : World) (hT : Tab w) (hp : p ≤ 113) (h1 : -1048576 ≤ e) (h2 : e ≤ 1048576) (hl4 : l ≤ 384) (hl : ¬ l < p + 2) (cP : CK_ 79 #[.int .u8 f] (.int .i64 (p : Nat))) (cR : ∀ w, Calls Tryz.prog 140 #[.int .u8 f, .int .u8 m] w fun e w' => e = .returned (.bool true) ∧ w = w') (cL : CK_ 80 #[W s] (.int .i64 (l : Nat))) (hs : s < top6) (hs0 : decide (s = 0) = false) (htop : (l : Int) - 1 + e = top) (l1 : -20000 ≤ lo) (l2 : lo ≤ 20000) (t1 : -1100000 ≤ top) (t2 : top ≤ 1100000) (hE : E ≤ 16383) (cE : CK_ 141 #[.int .u8 f] (.int .i64 lo)) (cX : CK_ 142 #[.int .u8 f] (.int .i64 (E : Nat))) (hlk : lk ≤ 384) (hov : ¬ (E : Int) < top) (hov2 : ¬ (E : Int) < (lk : Int) - 1 + (max top lo - (p : Int) + 1)) (cG : CT_ 144 #[.int .u8 m, RV neg s e true, .int .i64 (max top lo - (p : Int) + 1)] (.tuple #[W k, .bool false])) (cK : CK_ 80 #[W k] (.int .i64 (lk : Nat))) (cOf : CK_ 47 #[.int .u64 (max top lo - (p : Int) + 1 - lo + (p : Int) - 1)] (W n1)) (cLf : CK_ 101 #[W n1, .int .i64 ((p : Int) - 1)] (.tuple #[W n2, .bool lo1])) (cAd : CK_ 104 #[W n2, W k] (.tuple #[W n3, .bool lo2])) (cB : CK_ 146 #[W n3] (.tuple #[BV bb, .bool lo3])) (cZ : CK_ 78 #[.int .u8 f, .bool neg] (BV z)) (cT : CT_ 145 #[.int .u8 f, .int .u8 m, RV neg s e true, .int .i64 top] (.bool false))  :
  CR_ 61 #[.int .u8 f, .int .u8 m, RV neg s e true] w (.tuple #[.agg #[.int .u64 (Go.bits .or .u64 (limb bb 1) (limb z 1)), .int .u64 (Go.bits .or .u64 (limb bb 0) (limb z 0))], .int .u8 (Go.bits .or .u8 0 1), .int .i64 0]) := by
 have H := Own.start w
 have HT := Lib.hid hT
 clear hT
 have he2 : decide (e < -1048576) = false := by simp; omega
 have he3 : decide (1048576 < e) = false := by simp; omega
 have hl2 : decide ((l : Int) < (p : Int) + 2) = false := by simp; omega
 have eq1 : ∀ w, (Op.equalIn 10000 60 (.agg (limbs s)) (.agg #[.int .u64 0, .int .u64 0, .int .u64 0, .int .u64 0, .int .u64 0, .int .u64 0])).run Tryz.prog w = .ok false w := fun w => (run_equal_zero w s hs).trans (by rw [hs0])
 have v1 : IntKind.i64.wrap ((l : Int) - 1) = (l : Int) - 1 := IntWalk.i64_in _ (by omega)
 have v2 : IntKind.i64.wrap ((l : Int) - 1 + e) = top := by rw [htop]; exact IntWalk.i64_in _ (by omega)
 clear hs hs0 htop
 have hov3 : decide ((E : Int) < top) = false := by simp; omega
 have hov4 : decide ((E : Int) < (lk : Int) - 1 + (max top lo - (p : Int) + 1)) = false := by simp only [decide_eq_false_iff_not]; exact hov2
 go_enter Tryz.func61, Tryz.ntmps61
 exact walk2
theorem roundPack_u_t (f m s p l E k lk z n1 n2 n3 bb : Nat) (e top lo : Int) (neg lo1 lo2 lo3 : Bool) (w : World) (hT : Tab w) (hp : p ≤ 113) (h1 : -1048576 ≤ e) (h2 : e ≤ 1048576) (hl4 : l ≤ 384) (hl : ¬ l < p + 2) (cP : CK_ 79 #[.int .u8 f] (.int .i64 (p : Nat))) (cR : ∀ w, Calls Tryz.prog 140 #[.int .u8 f, .int .u8 m] w fun e w' => e = .returned (.bool true) ∧ w = w') (cL : CK_ 80 #[W s] (.int .i64 (l : Nat))) (hs : s < top6) (hs0 : decide (s = 0) = false) (htop : (l : Int) - 1 + e = top) (l1 : -20000 ≤ lo) (l2 : lo ≤ 20000) (t1 : -1100000 ≤ top) (t2 : top ≤ 1100000) (hE : E ≤ 16383) (cE : CK_ 141 #[.int .u8 f] (.int .i64 lo)) (cX : CK_ 142 #[.int .u8 f] (.int .i64 (E : Nat))) (hlk : lk ≤ 384) (hov : ¬ (E : Int) < top) (hov2 : ¬ (E : Int) < (lk : Int) - 1 + (max top lo - (p : Int) + 1)) (cG : CT_ 144 #[.int .u8 m, RV neg s e true, .int .i64 (max top lo - (p : Int) + 1)] (.tuple #[W k, .bool false])) (cK : CK_ 80 #[W k] (.int .i64 (lk : Nat))) (cOf : CK_ 47 #[.int .u64 (max top lo - (p : Int) + 1 - lo + (p : Int) - 1)] (W n1)) (cLf : CK_ 101 #[W n1, .int .i64 ((p : Int) - 1)] (.tuple #[W n2, .bool lo1])) (cAd : CK_ 104 #[W n2, W k] (.tuple #[W n3, .bool lo2])) (cB : CK_ 146 #[W n3] (.tuple #[BV bb, .bool lo3])) (cZ : CK_ 78 #[.int .u8 f, .bool neg] (BV z)) (cT : CT_ 145 #[.int .u8 f, .int .u8 m, RV neg s e true, .int .i64 top] (.bool true))  :
  CR_ 61 #[.int .u8 f, .int .u8 m, RV neg s e true] w (.tuple #[.agg #[.int .u64 (Go.bits .or .u64 (limb bb 1) (limb z 1)), .int .u64 (Go.bits .or .u64 (limb bb 0) (limb z 0))], .int .u8 (Go.bits .or .u8 (Go.bits .or .u8 0 1) 2), .int .i64 0]) := by
 have H := Own.start w
 have HT := Lib.hid hT
 clear hT
 have he2 : decide (e < -1048576) = false := by simp; omega
 have he3 : decide (1048576 < e) = false := by simp; omega
 have hl2 : decide ((l : Int) < (p : Int) + 2) = false := by simp; omega
 have eq1 : ∀ w, (Op.equalIn 10000 60 (.agg (limbs s)) (.agg #[.int .u64 0, .int .u64 0, .int .u64 0, .int .u64 0, .int .u64 0, .int .u64 0])).run Tryz.prog w = .ok false w := fun w => (run_equal_zero w s hs).trans (by rw [hs0])
 have v1 : IntKind.i64.wrap ((l : Int) - 1) = (l : Int) - 1 := IntWalk.i64_in _ (by omega)
 have v2 : IntKind.i64.wrap ((l : Int) - 1 + e) = top := by rw [htop]; exact IntWalk.i64_in _ (by omega)
 clear hs hs0 htop
 have hov3 : decide ((E : Int) < top) = false := by simp; omega
 have hov4 : decide ((E : Int) < (lk : Int) - 1 + (max top lo - (p : Int) + 1)) = false := by simp only [decide_eq_false_iff_not]; exact hov2
 go_enter Tryz.func61, Tryz.ntmps61
 exact walk2
end Go.Proofs.YtgmhmpflmgfcdaaGreatDoor
