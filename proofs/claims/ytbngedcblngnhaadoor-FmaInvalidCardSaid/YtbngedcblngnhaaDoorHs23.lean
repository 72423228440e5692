/- Part 23 of what is proved: Mud, Mue. -/
import Derived.Test.YtbngedcblngnhaaDoorHs0
import Derived.Test.YtbngedcblngnhaaDoorHs1
import Derived.Test.YtbngedcblngnhaaDoorHs4
import Derived.Test.YtbngedcblngnhaaDoorHs5
import Derived.Test.YtbngedcblngnhaaDoorHs10
import Derived.Test.YtbngedcblngnhaaDoorHs20
set_option linter.unusedSimpArgs false
set_option linter.unusedVariables false
set_option linter.unnecessarySimpa false
set_option maxRecDepth 100000
set_option maxHeartbeats 1600000
namespace Go.Proofs.YtbngedcblngnhaaDoor
open Go.RowKit
theorem mulMul_ZF (f m a b : Nat) (c1 s1 f1 : Nat) (x1 : Int) (c2 s2 f2 : Nat) (x2 : Int) (c3 s3 f3 : Nat) (x3 : Int) (b1 b2 : Bool) (w : World) (hT : Tab w) (cO : ∀ w g, Tab w → Blk 26 w g (cat2 (bc a) (bc b)) → Calls Tryd.prog 54 #[.int .u8 f, .int .u8 m, .slice (some ⟨g, 0, none⟩) 2 2] w fun e w' => e = .returned (.tuple #[.agg (tri c1 s1 x1 f1 c2 s2 x2 f2 c3 s3 x3 f3), .bool true]) ∧ Below w.heap.size w w') (cb1 : ∀ w, Calls Tryd.prog 55 #[PV c1 s1 x1 f1] w fun e w' => e = .returned (.bool b1) ∧ Below w.heap.size w w') (cb2 : ∀ w, Calls Tryd.prog 55 #[PV c2 s2 x2 f2] w fun e w' => e = .returned (.bool b2) ∧ Below w.heap.size w w') (cn1 : ∀ w, Calls Tryd.prog 56 #[PV c1 s1 x1 f1] w fun e w' => e = .returned (.bool false) ∧ Below w.heap.size w w') (cn2 : ∀ w, Calls Tryd.prog 56 #[PV c2 s2 x2 f2] w fun e w' => e = .returned (.bool false) ∧ Below w.heap.size w w') (ci1 : ∀ w, Calls Tryd.prog 58 #[PV c1 s1 x1 f1] w fun e w' => e = .returned (.bool false) ∧ Below w.heap.size w w') (ci2 : ∀ w, Calls Tryd.prog 58 #[PV c2 s2 x2 f2] w fun e w' => e = .returned (.bool false) ∧ Below w.heap.size w w') (cz1 : ∀ w, Calls Tryd.prog 59 #[PV c1 s1 x1 f1] w fun e w' => e = .returned (.bool true) ∧ Below w.heap.size w w') (cz2 : ∀ w, Calls Tryd.prog 59 #[PV c2 s2 x2 f2] w fun e w' => e = .returned (.bool false) ∧ Below w.heap.size w w') (zz : Nat) (cZZ : ∀ w, Calls Tryd.prog 14 #[.int .u8 f, .bool (!(b1 == b2))] w fun e w' => e = .returned (BV zz) ∧ Below w.heap.size w w') :
    Calls Tryd.prog 21 #[.int .u8 f, .int .u8 m, BV a, BV b] w fun e w' => e = .returned (.tuple #[BV zz, .int .u8 0, .int .i64 0]) ∧ Below w.heap.size w w' := by
  have H := Own.start w
  have HT := Lib.hid hT
  clear hT
  go_enter Tryd.func21, Tryd.ntmps21
  exact walk3
theorem mulMul_FZ (f m a b : Nat) (c1 s1 f1 : Nat) (x1 : Int) (c2 s2 f2 : Nat) (x2 : Int) (c3 s3 f3 : Nat) (x3 : Int) (b1 b2 : Bool) (w : World) (hT : Tab w) (cO : ∀ w g, Tab w → Blk 26 w g (cat2 (bc a) (bc b)) → Calls Tryd.prog 54 #[.int .u8 f, .int .u8 m, .slice (some ⟨g, 0, none⟩) 2 2] w fun e w' => e = .returned (.tuple #[.agg (tri c1 s1 x1 f1 c2 s2 x2 f2 c3 s3 x3 f3), .bool true]) ∧ Below w.heap.size w w') (cb1 : ∀ w, Calls Tryd.prog 55 #[PV c1 s1 x1 f1] w fun e w' => e = .returned (.bool b1) ∧ Below w.heap.size w w') (cb2 : ∀ w, Calls Tryd.prog 55 #[PV c2 s2 x2 f2] w fun e w' => e = .returned (.bool b2) ∧ Below w.heap.size w w') (cn1 : ∀ w, Calls Tryd.prog 56 #[PV c1 s1 x1 f1] w fun e w' => e = .returned (.bool false) ∧ Below w.heap.size w w') (cn2 : ∀ w, Calls Tryd.prog 56 #[PV c2 s2 x2 f2] w fun e w' => e = .returned (.bool false) ∧ Below w.heap.size w w') (ci1 : ∀ w, Calls Tryd.prog 58 #[PV c1 s1 x1 f1] w fun e w' => e = .returned (.bool false) ∧ Below w.heap.size w w') (ci2 : ∀ w, Calls Tryd.prog 58 #[PV c2 s2 x2 f2] w fun e w' => e = .returned (.bool false) ∧ Below w.heap.size w w') (cz1 : ∀ w, Calls Tryd.prog 59 #[PV c1 s1 x1 f1] w fun e w' => e = .returned (.bool false) ∧ Below w.heap.size w w') (cz2 : ∀ w, Calls Tryd.prog 59 #[PV c2 s2 x2 f2] w fun e w' => e = .returned (.bool true) ∧ Below w.heap.size w w') (zz : Nat) (cZZ : ∀ w, Calls Tryd.prog 14 #[.int .u8 f, .bool (!(b1 == b2))] w fun e w' => e = .returned (BV zz) ∧ Below w.heap.size w w') :
    Calls Tryd.prog 21 #[.int .u8 f, .int .u8 m, BV a, BV b] w fun e w' => e = .returned (.tuple #[BV zz, .int .u8 0, .int .i64 0]) ∧ Below w.heap.size w w' := by
  have H := Own.start w
  have HT := Lib.hid hT
  clear hT
  go_enter Tryd.func21, Tryd.ntmps21
  exact walk3
open Go.RowKit
theorem mulMul_FF (f m a b : Nat) (c1 s1 f1 : Nat) (x1 : Int) (c2 s2 f2 : Nat) (x2 : Int) (c3 s3 f3 : Nat) (x3 : Int) (b1 b2 : Bool) (w : World) (hT : Tab w) (cO : ∀ w g, Tab w → Blk 26 w g (cat2 (bc a) (bc b)) → Calls Tryd.prog 54 #[.int .u8 f, .int .u8 m, .slice (some ⟨g, 0, none⟩) 2 2] w fun e w' => e = .returned (.tuple #[.agg (tri c1 s1 x1 f1 c2 s2 x2 f2 c3 s3 x3 f3), .bool true]) ∧ Below w.heap.size w w') (cb1 : ∀ w, Calls Tryd.prog 55 #[PV c1 s1 x1 f1] w fun e w' => e = .returned (.bool b1) ∧ Below w.heap.size w w') (cb2 : ∀ w, Calls Tryd.prog 55 #[PV c2 s2 x2 f2] w fun e w' => e = .returned (.bool b2) ∧ Below w.heap.size w w') (cn1 : ∀ w, Calls Tryd.prog 56 #[PV c1 s1 x1 f1] w fun e w' => e = .returned (.bool false) ∧ Below w.heap.size w w') (cn2 : ∀ w, Calls Tryd.prog 56 #[PV c2 s2 x2 f2] w fun e w' => e = .returned (.bool false) ∧ Below w.heap.size w w') (ci1 : ∀ w, Calls Tryd.prog 58 #[PV c1 s1 x1 f1] w fun e w' => e = .returned (.bool false) ∧ Below w.heap.size w w') (ci2 : ∀ w, Calls Tryd.prog 58 #[PV c2 s2 x2 f2] w fun e w' => e = .returned (.bool false) ∧ Below w.heap.size w w') (cz1 : ∀ w, Calls Tryd.prog 59 #[PV c1 s1 x1 f1] w fun e w' => e = .returned (.bool false) ∧ Below w.heap.size w w') (cz2 : ∀ w, Calls Tryd.prog 59 #[PV c2 s2 x2 f2] w fun e w' => e = .returned (.bool false) ∧ Below w.heap.size w w') (hx1 : -40000 ≤ x1) (hx1b : x1 ≤ 40000) (hx2 : -40000 ≤ x2) (hx2b : x2 ≤ 40000) (s : Nat) (o : Bool) (r : Nat) (fl : Int) (er : Int) (cM : ∀ w, Calls Tryd.prog 50 #[W s1, W s2] w fun e w' => e = .returned (.tuple #[W s, .bool o]) ∧ Below w.heap.size w w') (cK : ∀ w, Tab w → Calls Tryd.prog 39 #[.int .u8 f, .int .u8 m, RV (!(b1 == b2)) s (x1 + x2) false] w fun e w' => e = .returned (.tuple #[BV r, .int .u8 fl, .int .i64 er]) ∧ Below w.heap.size w w') :
    Calls Tryd.prog 21 #[.int .u8 f, .int .u8 m, BV a, BV b] w fun e w' => e = .returned (.tuple #[BV r, .int .u8 fl, .int .i64 er]) ∧ Below w.heap.size w w' := by
  have H := Own.start w
  have HT := Lib.hid hT
  clear hT
  go_enter Tryd.func21, Tryd.ntmps21
  exact walk3
end Go.Proofs.YtbngedcblngnhaaDoor
