/- Part 38 of what is proved: Di2. -/
import Derived.Test.YtecdpjhifmlahaaGreatDoorHd1
import Derived.Test.YtecdpjhifmlahaaGreatDoorHd2
import Derived.Test.YtecdpjhifmlahaaGreatDoorHd37
set_option linter.unusedSimpArgs false
set_option linter.unusedVariables false
set_option linter.unnecessarySimpa false
set_option maxRecDepth 100000
set_option maxHeartbeats 1600000
namespace Go.Proofs.YtecdpjhifmlahaaGreatDoor
open Go.RowKit
theorem divDiv_IZ (f m a b : Nat) (c1 s1 f1 : Nat) (x1 : Int) (c2 s2 f2 : Nat) (x2 : Int) (c3 s3 f3 : Nat) (x3 : Int) (b1 b2 : Bool) (w : World) (hT : Tab w) (cO : ∀ w g, Tab w → Blk 27 w g (cat2 (bc a) (bc b)) → Calls Tryz.prog 107 #[.int .u8 f, .int .u8 m, .slice (some ⟨g, 0, none⟩) 2 2] w fun e w' => e = .returned (.tuple #[.agg (tri c1 s1 x1 f1 c2 s2 x2 f2 c3 s3 x3 f3), .bool true]) ∧ Below w.heap.size w w') (cb1 : CK_ 110 #[PV c1 s1 x1 f1] (.bool b1)) (cb2 : CK_ 110 #[PV c2 s2 x2 f2] (.bool b2)) (cn1 : CK_ 108 #[PV c1 s1 x1 f1] (.bool false)) (cs1 : CK_ 111 #[PV c1 s1 x1 f1] (.int .u8 105)) (cn2 : CK_ 108 #[PV c2 s2 x2 f2] (.bool false)) (cs2 : CK_ 111 #[PV c2 s2 x2 f2] (.int .u8 110)) (ii : Nat) (cII : CK_ 76 #[.int .u8 f, .bool (!(b1 == b2))] (BV ii)) :
    Calls Tryz.prog 31 #[.int .u8 f, .int .u8 m, BV a, BV b] w fun e w' => e = .returned (.tuple #[BV ii, .int .u8 0, .int .i64 0]) ∧ Below w.heap.size w w' := by
  have H := Own.start w
  have HT := Lib.hid hT
  clear hT
  go_enter Tryz.func31, Tryz.ntmps31
  exact walk1
theorem divDiv_IF (f m a b : Nat) (c1 s1 f1 : Nat) (x1 : Int) (c2 s2 f2 : Nat) (x2 : Int) (c3 s3 f3 : Nat) (x3 : Int) (b1 b2 : Bool) (w : World) (hT : Tab w) (cO : ∀ w g, Tab w → Blk 27 w g (cat2 (bc a) (bc b)) → Calls Tryz.prog 107 #[.int .u8 f, .int .u8 m, .slice (some ⟨g, 0, none⟩) 2 2] w fun e w' => e = .returned (.tuple #[.agg (tri c1 s1 x1 f1 c2 s2 x2 f2 c3 s3 x3 f3), .bool true]) ∧ Below w.heap.size w w') (cb1 : CK_ 110 #[PV c1 s1 x1 f1] (.bool b1)) (cb2 : CK_ 110 #[PV c2 s2 x2 f2] (.bool b2)) (cn1 : CK_ 108 #[PV c1 s1 x1 f1] (.bool false)) (cs1 : CK_ 111 #[PV c1 s1 x1 f1] (.int .u8 105)) (cn2 : CK_ 108 #[PV c2 s2 x2 f2] (.bool false)) (cs2 : CK_ 111 #[PV c2 s2 x2 f2] (.int .u8 102)) (ii : Nat) (cII : CK_ 76 #[.int .u8 f, .bool (!(b1 == b2))] (BV ii)) :
    Calls Tryz.prog 31 #[.int .u8 f, .int .u8 m, BV a, BV b] w fun e w' => e = .returned (.tuple #[BV ii, .int .u8 0, .int .i64 0]) ∧ Below w.heap.size w w' := by
  have H := Own.start w
  have HT := Lib.hid hT
  clear hT
  go_enter Tryz.func31, Tryz.ntmps31
  exact walk1
theorem divDiv_ZI (f m a b : Nat) (c1 s1 f1 : Nat) (x1 : Int) (c2 s2 f2 : Nat) (x2 : Int) (c3 s3 f3 : Nat) (x3 : Int) (b1 b2 : Bool) (w : World) (hT : Tab w) (cO : ∀ w g, Tab w → Blk 27 w g (cat2 (bc a) (bc b)) → Calls Tryz.prog 107 #[.int .u8 f, .int .u8 m, .slice (some ⟨g, 0, none⟩) 2 2] w fun e w' => e = .returned (.tuple #[.agg (tri c1 s1 x1 f1 c2 s2 x2 f2 c3 s3 x3 f3), .bool true]) ∧ Below w.heap.size w w') (cb1 : CK_ 110 #[PV c1 s1 x1 f1] (.bool b1)) (cb2 : CK_ 110 #[PV c2 s2 x2 f2] (.bool b2)) (cn1 : CK_ 108 #[PV c1 s1 x1 f1] (.bool false)) (cs1 : CK_ 111 #[PV c1 s1 x1 f1] (.int .u8 110)) (cn2 : CK_ 108 #[PV c2 s2 x2 f2] (.bool false)) (cs2 : CK_ 111 #[PV c2 s2 x2 f2] (.int .u8 105)) (zz : Nat) (cZZ : CK_ 91 #[.int .u8 f, .bool (!(b1 == b2))] (BV zz)) :
    Calls Tryz.prog 31 #[.int .u8 f, .int .u8 m, BV a, BV b] w fun e w' => e = .returned (.tuple #[BV zz, .int .u8 0, .int .i64 0]) ∧ Below w.heap.size w w' := by
  have H := Own.start w
  have HT := Lib.hid hT
  clear hT
  go_enter Tryz.func31, Tryz.ntmps31
  exact walk1
theorem divDiv_FI (f m a b : Nat) (c1 s1 f1 : Nat) (x1 : Int) (c2 s2 f2 : Nat) (x2 : Int) (c3 s3 f3 : Nat) (x3 : Int) (b1 b2 : Bool) (w : World) (hT : Tab w) (cO : ∀ w g, Tab w → Blk 27 w g (cat2 (bc a) (bc b)) → Calls Tryz.prog 107 #[.int .u8 f, .int .u8 m, .slice (some ⟨g, 0, none⟩) 2 2] w fun e w' => e = .returned (.tuple #[.agg (tri c1 s1 x1 f1 c2 s2 x2 f2 c3 s3 x3 f3), .bool true]) ∧ Below w.heap.size w w') (cb1 : CK_ 110 #[PV c1 s1 x1 f1] (.bool b1)) (cb2 : CK_ 110 #[PV c2 s2 x2 f2] (.bool b2)) (cn1 : CK_ 108 #[PV c1 s1 x1 f1] (.bool false)) (cs1 : CK_ 111 #[PV c1 s1 x1 f1] (.int .u8 102)) (cn2 : CK_ 108 #[PV c2 s2 x2 f2] (.bool false)) (cs2 : CK_ 111 #[PV c2 s2 x2 f2] (.int .u8 105)) (zz : Nat) (cZZ : CK_ 91 #[.int .u8 f, .bool (!(b1 == b2))] (BV zz)) :
    Calls Tryz.prog 31 #[.int .u8 f, .int .u8 m, BV a, BV b] w fun e w' => e = .returned (.tuple #[BV zz, .int .u8 0, .int .i64 0]) ∧ Below w.heap.size w w' := by
  have H := Own.start w
  have HT := Lib.hid hT
  clear hT
  go_enter Tryz.func31, Tryz.ntmps31
  exact walk1
end Go.Proofs.YtecdpjhifmlahaaGreatDoor
