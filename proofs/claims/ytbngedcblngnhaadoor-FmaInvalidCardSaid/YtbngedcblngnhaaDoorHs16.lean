/- Part 16 of what is proved: Fs1. -/
import Derived.Test.YtbngedcblngnhaaDoorHs0
import Derived.Test.YtbngedcblngnhaaDoorHs1
import Derived.Test.YtbngedcblngnhaaDoorHs5
import Derived.Test.YtbngedcblngnhaaDoorHs10
import Derived.Test.YtbngedcblngnhaaDoorHs14
import Derived.Test.YtbngedcblngnhaaDoorHs15
set_option linter.unusedSimpArgs false
set_option linter.unusedVariables false
set_option linter.unnecessarySimpa false
set_option maxRecDepth 100000
set_option maxHeartbeats 1600000
namespace Go.Proofs.YtbngedcblngnhaaDoor
open Go.RowKit
set_option maxHeartbeats 6400000 in
theorem fmaSum_same1 (f m : Nat) (n1 n2 : Bool) (s1 s2 : Nat) (x1 x2 : Int) (l1 l2 : Nat) (n : Int) (u t : Nat) (lo : Bool) (w : World) (hT : Tab w) (hx1 : -200000 ≤ x1) (hx1b : x1 ≤ 200000) (hx2 : -200000 ≤ x2) (hx2b : x2 ≤ 200000) (hl1 : l1 ≤ 384) (hl2 : l2 ≤ 384) (hn0 : 0 ≤ n) (hn : n ≤ 384) (hs : (l1 : Int) + x1 < (l2 : Int) + x2) (cl1 : ∀ w, Calls Tryd.prog 68 #[W s1] w fun e w' => e = .returned (.int .i64 (l1 : Nat)) ∧ Below w.heap.size w w') (cl2 : ∀ w, Calls Tryd.prog 68 #[W s2] w fun e w' => e = .returned (.int .i64 (l2 : Nat)) ∧ Below w.heap.size w w') (cT : ∀ w, Calls Tryd.prog 80 #[W s2, .int .i64 380] w fun e w' => e = .returned (.tuple #[W u, .int .i64 n, .int .i64 0]) ∧ Below w.heap.size w w') (cL : 0 ≤ (x1 - (x2 - n)) → ∀ w, Calls Tryd.prog 33 #[W s1, .int .i64 (x1 - (x2 - n))] w fun e w' => e = .returned (.tuple #[W t, .bool lo]) ∧ Below w.heap.size w w') (cJ : ¬ 0 ≤ (x1 - (x2 - n)) → ∀ w, Tab w → Calls Tryd.prog 34 #[W s1, .int .i64 (-(x1 - (x2 - n)))] w fun e w' => e = .returned (W t) ∧ Below w.heap.size w w') (hbb : (n2 == n1) = true) (sa ra : Nat) (oa : Bool) (fla era : Int) (cKa : ∀ w, Tab w → Calls Tryd.prog 39 #[.int .u8 f, .int .u8 m, RV n2 sa (x2 - n) false] w fun e w' => e = .returned (.tuple #[BV ra, .int .u8 fla, .int .i64 era]) ∧ Below w.heap.size w w') (cA : ∀ w, Calls Tryd.prog 36 #[W u, W t] w fun e w' => e = .returned (.tuple #[W sa, .bool oa]) ∧ Below w.heap.size w w') :
    Calls Tryd.prog 51 #[.int .u8 f, .int .u8 m, RV n1 s1 x1 false, RV n2 s2 x2 false] w fun e w' => e = .returned (.tuple #[BV ra, .int .u8 fla, .int .i64 era]) ∧ Below w.heap.size w w' := by
  have H := Own.start w
  have HT := Lib.hid hT
  clear hT
  have v1 : IntKind.i64.wrap ((l1 : Int) + x1) = (l1 : Int) + x1 := IntWalk.i64_in _ (by omega)
  have v2 : IntKind.i64.wrap ((l2 : Int) + x2) = (l2 : Int) + x2 := IntWalk.i64_in _ (by omega)
  go_enter Tryd.func51, Tryd.ntmps51
  exact walk5
set_option maxHeartbeats 6400000 in
theorem fmaSum_diff1 (f m : Nat) (n1 n2 : Bool) (s1 s2 : Nat) (x1 x2 : Int) (l1 l2 : Nat) (n : Int) (u t : Nat) (lo : Bool) (w : World) (hT : Tab w) (hx1 : -200000 ≤ x1) (hx1b : x1 ≤ 200000) (hx2 : -200000 ≤ x2) (hx2b : x2 ≤ 200000) (hl1 : l1 ≤ 384) (hl2 : l2 ≤ 384) (hn0 : 0 ≤ n) (hn : n ≤ 384) (hs : (l1 : Int) + x1 < (l2 : Int) + x2) (cl1 : ∀ w, Calls Tryd.prog 68 #[W s1] w fun e w' => e = .returned (.int .i64 (l1 : Nat)) ∧ Below w.heap.size w w') (cl2 : ∀ w, Calls Tryd.prog 68 #[W s2] w fun e w' => e = .returned (.int .i64 (l2 : Nat)) ∧ Below w.heap.size w w') (cT : ∀ w, Calls Tryd.prog 80 #[W s2, .int .i64 380] w fun e w' => e = .returned (.tuple #[W u, .int .i64 n, .int .i64 0]) ∧ Below w.heap.size w w') (cL : 0 ≤ (x1 - (x2 - n)) → ∀ w, Calls Tryd.prog 33 #[W s1, .int .i64 (x1 - (x2 - n))] w fun e w' => e = .returned (.tuple #[W t, .bool lo]) ∧ Below w.heap.size w w') (cJ : ¬ 0 ≤ (x1 - (x2 - n)) → ∀ w, Tab w → Calls Tryd.prog 34 #[W s1, .int .i64 (-(x1 - (x2 - n)))] w fun e w' => e = .returned (W t) ∧ Below w.heap.size w w') (hbb : (n2 == n1) = false) (k : Int) (hk : k = 0 ∨ k = 1 ∨ k = -1) (cC : ∀ w, Calls Tryd.prog 37 #[W u, W t] w fun e w' => e = .returned (.int .i64 k) ∧ Below w.heap.size w w') (zz : Nat) (cZZ : ∀ w, Calls Tryd.prog 14 #[.int .u8 f, .bool ((m : Int) == 2)] w fun e w' => e = .returned (BV zz) ∧ Below w.heap.size w w') (sm rm : Nat) (om : Bool) (flm erm : Int) (cKm : k = 1 → ∀ w, Tab w → Calls Tryd.prog 39 #[.int .u8 f, .int .u8 m, RV n2 sm (x2 - n) false] w fun e w' => e = .returned (.tuple #[BV rm, .int .u8 flm, .int .i64 erm]) ∧ Below w.heap.size w w') (sl rl : Nat) (ol : Bool) (fll erl : Int) (cKl : k = -1 → ∀ w, Tab w → Calls Tryd.prog 39 #[.int .u8 f, .int .u8 m, RV n1 sl (x2 - n) false] w fun e w' => e = .returned (.tuple #[BV rl, .int .u8 fll, .int .i64 erl]) ∧ Below w.heap.size w w') (cM : k = 1 → ∀ w, Calls Tryd.prog 38 #[W u, W t] w fun e w' => e = .returned (.tuple #[W sm, .bool om]) ∧ Below w.heap.size w w') (cS : k = -1 → ∀ w, Calls Tryd.prog 38 #[W t, W u] w fun e w' => e = .returned (.tuple #[W sl, .bool ol]) ∧ Below w.heap.size w w') :
    Calls Tryd.prog 51 #[.int .u8 f, .int .u8 m, RV n1 s1 x1 false, RV n2 s2 x2 false] w fun e w' => e = .returned (if k = 0 then .tuple #[BV zz, .int .u8 0, .int .i64 0] else if k = 1 then .tuple #[BV rm, .int .u8 flm, .int .i64 erm] else .tuple #[BV rl, .int .u8 fll, .int .i64 erl]) ∧ Below w.heap.size w w' := by
  have H := Own.start w
  have HT := Lib.hid hT
  clear hT
  have v1 : IntKind.i64.wrap ((l1 : Int) + x1) = (l1 : Int) + x1 := IntWalk.i64_in _ (by omega)
  have v2 : IntKind.i64.wrap ((l2 : Int) + x2) = (l2 : Int) + x2 := IntWalk.i64_in _ (by omega)
  go_enter Tryd.func51, Tryd.ntmps51
  exact walk5
end Go.Proofs.YtbngedcblngnhaaDoor
