/- Part 57 of what is proved: Mub. -/
import Derived.Test.YtecdpjhifmlahaaGreatDoorHw5
import Derived.Test.YtecdpjhifmlahaaGreatDoorHw7
import Derived.Test.YtecdpjhifmlahaaGreatDoorHw8
import Derived.Test.YtecdpjhifmlahaaGreatDoorHw9
import Derived.Test.YtecdpjhifmlahaaGreatDoorHw10
import Derived.Test.YtecdpjhifmlahaaGreatDoorHw11
import Derived.Test.YtecdpjhifmlahaaGreatDoorHw36
import Derived.Test.YtecdpjhifmlahaaGreatDoorHw41
import Derived.Test.YtecdpjhifmlahaaGreatDoorHw43
import Derived.Test.YtecdpjhifmlahaaGreatDoorHw47
import Derived.Test.YtecdpjhifmlahaaGreatDoorHw54
import Derived.Test.YtecdpjhifmlahaaGreatDoorHw55
set_option linter.unusedSimpArgs false
set_option linter.unusedVariables false
set_option linter.unnecessarySimpa false
set_option maxRecDepth 100000
set_option maxHeartbeats 1600000
namespace Go.Proofs.YtecdpjhifmlahaaGreatDoor
open Go.RowKit
theorem mulMul_IZ (f m a b : Nat) (c1 s1 f1 : Nat) (x1 : Int) (c2 s2 f2 : Nat) (x2 : Int) (c3 s3 f3 : Nat) (x3 : Int) (b1 b2 : Bool) (w : World) (hT : Tab w) (cO : ∀ w g, Tab w → Blk 27 w g (cat2 (bc a) (bc b)) → Calls Tryz.prog 85 #[.int .u8 f, .int .u8 m, .slice (some ⟨g, 0, none⟩) 2 2] w fun e w' => e = .returned (.tuple #[.agg (tri c1 s1 x1 f1 c2 s2 x2 f2 c3 s3 x3 f3), .bool true]) ∧ Below w.heap.size w w') (cb1 : CK_ 86 #[PV c1 s1 x1 f1] (.bool b1)) (cb2 : CK_ 86 #[PV c2 s2 x2 f2] (.bool b2)) (cn1 : CK_ 87 #[PV c1 s1 x1 f1] (.bool false)) (cn2 : CK_ 87 #[PV c2 s2 x2 f2] (.bool false)) (ci1 : CK_ 89 #[PV c1 s1 x1 f1] (.bool true)) (ci2 : CK_ 89 #[PV c2 s2 x2 f2] (.bool false)) (cz1 : CK_ 90 #[PV c1 s1 x1 f1] (.bool false)) (cz2 : CK_ 90 #[PV c2 s2 x2 f2] (.bool true)) (nn : Nat) (cNN : CK_ 74 #[.int .u8 f] (BV nn)) :
    Calls Tryz.prog 25 #[.int .u8 f, .int .u8 m, BV a, BV b] w fun e w' => e = .returned (.tuple #[BV nn, .int .u8 16, .int .i64 0]) ∧ Below w.heap.size w w' := by
  have H := Own.start w
  have HT := Lib.hid hT
  clear hT
  go_enter Tryz.func25, Tryz.ntmps25
  exact walk4
theorem mulMul_ZI (f m a b : Nat) (c1 s1 f1 : Nat) (x1 : Int) (c2 s2 f2 : Nat) (x2 : Int) (c3 s3 f3 : Nat) (x3 : Int) (b1 b2 : Bool) (w : World) (hT : Tab w) (cO : ∀ w g, Tab w → Blk 27 w g (cat2 (bc a) (bc b)) → Calls Tryz.prog 85 #[.int .u8 f, .int .u8 m, .slice (some ⟨g, 0, none⟩) 2 2] w fun e w' => e = .returned (.tuple #[.agg (tri c1 s1 x1 f1 c2 s2 x2 f2 c3 s3 x3 f3), .bool true]) ∧ Below w.heap.size w w') (cb1 : CK_ 86 #[PV c1 s1 x1 f1] (.bool b1)) (cb2 : CK_ 86 #[PV c2 s2 x2 f2] (.bool b2)) (cn1 : CK_ 87 #[PV c1 s1 x1 f1] (.bool false)) (cn2 : CK_ 87 #[PV c2 s2 x2 f2] (.bool false)) (ci1 : CK_ 89 #[PV c1 s1 x1 f1] (.bool false)) (ci2 : CK_ 89 #[PV c2 s2 x2 f2] (.bool true)) (cz1 : CK_ 90 #[PV c1 s1 x1 f1] (.bool true)) (cz2 : CK_ 90 #[PV c2 s2 x2 f2] (.bool false)) (nn : Nat) (cNN : CK_ 74 #[.int .u8 f] (BV nn)) :
    Calls Tryz.prog 25 #[.int .u8 f, .int .u8 m, BV a, BV b] w fun e w' => e = .returned (.tuple #[BV nn, .int .u8 16, .int .i64 0]) ∧ Below w.heap.size w w' := by
  have H := Own.start w
  have HT := Lib.hid hT
  clear hT
  go_enter Tryz.func25, Tryz.ntmps25
  exact walk4
theorem mulMul_II (f m a b : Nat) (c1 s1 f1 : Nat) (x1 : Int) (c2 s2 f2 : Nat) (x2 : Int) (c3 s3 f3 : Nat) (x3 : Int) (b1 b2 : Bool) (w : World) (hT : Tab w) (cO : ∀ w g, Tab w → Blk 27 w g (cat2 (bc a) (bc b)) → Calls Tryz.prog 85 #[.int .u8 f, .int .u8 m, .slice (some ⟨g, 0, none⟩) 2 2] w fun e w' => e = .returned (.tuple #[.agg (tri c1 s1 x1 f1 c2 s2 x2 f2 c3 s3 x3 f3), .bool true]) ∧ Below w.heap.size w w') (cb1 : CK_ 86 #[PV c1 s1 x1 f1] (.bool b1)) (cb2 : CK_ 86 #[PV c2 s2 x2 f2] (.bool b2)) (cn1 : CK_ 87 #[PV c1 s1 x1 f1] (.bool false)) (cn2 : CK_ 87 #[PV c2 s2 x2 f2] (.bool false)) (ci1 : CK_ 89 #[PV c1 s1 x1 f1] (.bool true)) (ci2 : CK_ 89 #[PV c2 s2 x2 f2] (.bool true)) (cz1 : CK_ 90 #[PV c1 s1 x1 f1] (.bool false)) (cz2 : CK_ 90 #[PV c2 s2 x2 f2] (.bool false)) (ii : Nat) (cII : CK_ 76 #[.int .u8 f, .bool (!(b1 == b2))] (BV ii)) :
    Calls Tryz.prog 25 #[.int .u8 f, .int .u8 m, BV a, BV b] w fun e w' => e = .returned (.tuple #[BV ii, .int .u8 0, .int .i64 0]) ∧ Below w.heap.size w w' := by
  have H := Own.start w
  have HT := Lib.hid hT
  clear hT
  go_enter Tryz.func25, Tryz.ntmps25
  exact walk4
end Go.Proofs.YtecdpjhifmlahaaGreatDoor
