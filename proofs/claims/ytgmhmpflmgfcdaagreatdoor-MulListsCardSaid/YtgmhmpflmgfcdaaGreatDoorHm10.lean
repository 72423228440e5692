/- Part 10 of the proof. -/
import Derived.Test.YtgmhmpflmgfcdaaGreatDoorHm1
import Derived.Test.YtgmhmpflmgfcdaaGreatDoorHm2
import Derived.Test.YtgmhmpflmgfcdaaGreatDoorHm3
import Derived.Test.YtgmhmpflmgfcdaaGreatDoorHm4
import Derived.Test.YtgmhmpflmgfcdaaGreatDoorHm5
import Derived.Test.YtgmhmpflmgfcdaaGreatDoorHm6
import Derived.Test.YtgmhmpflmgfcdaaGreatDoorHm7
import Derived.Test.YtgmhmpflmgfcdaaGreatDoorHm9
set_option linter.unusedSimpArgs false
set_option linter.unusedVariables false
set_option linter.unnecessarySimpa false
set_option maxRecDepth 100000
set_option maxHeartbeats 3200000
namespace Go.Proofs.YtgmhmpflmgfcdaaGreatDoor
open Go.RowKit
theorem mulMul_IZ (f m a b : Nat) (c1 s1 f1 : Nat) (x1 : Int) (c2 s2 f2 : Nat) (x2 : Int) (c3 s3 f3 : Nat) (x3 : Int) (b1 b2 : Bool) (w : World) (hT : Tab w) (cO : ∀ w g, Tab w → Blk 27 w g (cat2 (bc a) (bc b)) → CR_ 91 #[.int .u8 f, .int .u8 m, .slice (some ⟨g, 0, none⟩) 2 2] w (.tuple #[.agg (tri c1 s1 x1 f1 c2 s2 x2 f2 c3 s3 x3 f3), .bool true])) (cb1 : CK_ 172 #[PV c1 s1 x1 f1] (.bool b1)) (cb2 : CK_ 172 #[PV c2 s2 x2 f2] (.bool b2)) (cn1 : CK_ 173 #[PV c1 s1 x1 f1] (.bool false)) (cn2 : CK_ 173 #[PV c2 s2 x2 f2] (.bool false)) (ci1 : CK_ 175 #[PV c1 s1 x1 f1] (.bool true)) (ci2 : CK_ 175 #[PV c2 s2 x2 f2] (.bool false)) (cz1 : CK_ 176 #[PV c1 s1 x1 f1] (.bool false)) (cz2 : CK_ 176 #[PV c2 s2 x2 f2] (.bool true)) (nn : Nat) (cNN : CK_ 76 #[.int .u8 f] (BV nn)) :
  CR_ 90 #[.int .u8 f, .int .u8 m, BV a, BV b] w (.tuple #[BV nn, .int .u8 16, .int .i64 0]) := by
 have H := Own.start w
 have HT := Lib.hid hT
 clear hT
 go_enter Tryz.func90, Tryz.ntmps90
 exact walk1
theorem mulMul_ZI (f m a b : Nat) (c1 s1 f1 : Nat) (x1 : Int) (c2 s2 f2 : Nat) (x2 : Int) (c3 s3 f3 : Nat) (x3 : Int) (b1 b2 : Bool) (w : World) (hT : Tab w) (cO : ∀ w g, Tab w → Blk 27 w g (cat2 (bc a) (bc b)) → CR_ 91 #[.int .u8 f, .int .u8 m, .slice (some ⟨g, 0, none⟩) 2 2] w (.tuple #[.agg (tri c1 s1 x1 f1 c2 s2 x2 f2 c3 s3 x3 f3), .bool true])) (cb1 : CK_ 172 #[PV c1 s1 x1 f1] (.bool b1)) (cb2 : CK_ 172 #[PV c2 s2 x2 f2] (.bool b2)) (cn1 : CK_ 173 #[PV c1 s1 x1 f1] (.bool false)) (cn2 : CK_ 173 #[PV c2 s2 x2 f2] (.bool false)) (ci1 : CK_ 175 #[PV c1 s1 x1 f1] (.bool false)) (ci2 : CK_ 175 #[PV c2 s2 x2 f2] (.bool true)) (cz1 : CK_ 176 #[PV c1 s1 x1 f1] (.bool true)) (cz2 : CK_ 176 #[PV c2 s2 x2 f2] (.bool false)) (nn : Nat) (cNN : CK_ 76 #[.int .u8 f] (BV nn)) :
  CR_ 90 #[.int .u8 f, .int .u8 m, BV a, BV b] w (.tuple #[BV nn, .int .u8 16, .int .i64 0]) := by
 have H := Own.start w
 have HT := Lib.hid hT
 clear hT
 go_enter Tryz.func90, Tryz.ntmps90
 exact walk1
theorem mulMul_II (f m a b : Nat) (c1 s1 f1 : Nat) (x1 : Int) (c2 s2 f2 : Nat) (x2 : Int) (c3 s3 f3 : Nat) (x3 : Int) (b1 b2 : Bool) (w : World) (hT : Tab w) (cO : ∀ w g, Tab w → Blk 27 w g (cat2 (bc a) (bc b)) → CR_ 91 #[.int .u8 f, .int .u8 m, .slice (some ⟨g, 0, none⟩) 2 2] w (.tuple #[.agg (tri c1 s1 x1 f1 c2 s2 x2 f2 c3 s3 x3 f3), .bool true])) (cb1 : CK_ 172 #[PV c1 s1 x1 f1] (.bool b1)) (cb2 : CK_ 172 #[PV c2 s2 x2 f2] (.bool b2)) (cn1 : CK_ 173 #[PV c1 s1 x1 f1] (.bool false)) (cn2 : CK_ 173 #[PV c2 s2 x2 f2] (.bool false)) (ci1 : CK_ 175 #[PV c1 s1 x1 f1] (.bool true)) (ci2 : CK_ 175 #[PV c2 s2 x2 f2] (.bool true)) (cz1 : CK_ 176 #[PV c1 s1 x1 f1] (.bool false)) (cz2 : CK_ 176 #[PV c2 s2 x2 f2] (.bool false)) (ii : Nat) (cII : CK_ 77 #[.int .u8 f, .bool (!(b1 == b2))] (BV ii)) :
  CR_ 90 #[.int .u8 f, .int .u8 m, BV a, BV b] w (.tuple #[BV ii, .int .u8 0, .int .i64 0]) := by
 have H := Own.start w
 have HT := Lib.hid hT
 clear hT
 go_enter Tryz.func90, Tryz.ntmps90
 exact walk1
end Go.Proofs.YtgmhmpflmgfcdaaGreatDoor
