/- Part 42 of what is proved: Ad4. -/
import Derived.Test.YtgmhmpflmgfcdaaGreatDoorHs3
import Derived.Test.YtgmhmpflmgfcdaaGreatDoorHs4
import Derived.Test.YtgmhmpflmgfcdaaGreatDoorHs41
set_option linter.unusedSimpArgs false
set_option linter.unusedVariables false
set_option linter.unnecessarySimpa false
set_option maxRecDepth 100000
set_option maxHeartbeats 3200000
namespace Go.Proofs.YtgmhmpflmgfcdaaGreatDoor
open Go.RowKit
theorem addAdd_FF0_same (f m a b : Nat) (c1 s1 f1 : Nat) (x1 : Int) (c2 s2 f2 : Nat) (x2 : Int) (c3 s3 f3 : Nat) (x3 : Int) (w : World) (hT : Tab w) (cO : ∀ w g, Tab w → Blk 27 w g (cat2 (bc a) (bc b)) → CR_ 96 #[.int .u8 f, .int .u8 m, .slice (some ⟨g, 0, none⟩) 2 2] w (.tuple #[.agg (tri c1 s1 x1 f1 c2 s2 x2 f2 c3 s3 x3 f3), .bool true])) (cn1 : CK_ 97 #[PV c1 s1 x1 f1] (.bool false)) (cn2 : CK_ 97 #[PV c2 s2 x2 f2] (.bool false)) (ci1 : CK_ 99 #[PV c1 s1 x1 f1] (.bool false)) (ci2 : CK_ 99 #[PV c2 s2 x2 f2] (.bool false)) (cz1 : CK_ 100 #[PV c1 s1 x1 f1] (.bool false)) (cz2 : CK_ 100 #[PV c2 s2 x2 f2] (.bool false)) (hx1 : -40000 ≤ x1) (hx1b : x1 ≤ 40000) (hx2 : -40000 ≤ x2) (hx2b : x2 ≤ 40000) (hs : ¬ x1 < x2) (u1 u2 t1 t2 : Nat) (l1 l2 l3 b1 b2 : Bool) (cb1 : CK_ 103 #[PV c1 s1 x1 f1] (.bool b1)) (cb2 : CK_ 103 #[PV c2 s2 x2 f2] (.bool b2)) (cL1 : CK_ 101 #[W s1, .int .i64 (min (x1 - x2) 200)] (.tuple #[W u1, .bool l1])) (cL2 : CK_ 101 #[W s2, .int .i64 2] (.tuple #[W t1, .bool l2])) (cL3 : CK_ 101 #[W u1, .int .i64 2] (.tuple #[W u2, .bool l3])) (cJ : CT_ 102 #[W t1, .int .i64 ((x1 - (min (x1 - x2) 200)) - x2)] (W t2)) (hbb : (b1 == b2) = true) (s r : Nat) (o : Bool) (fl er : Int) (cK : CT_ 61 #[.int .u8 f, .int .u8 m, RV b1 s ((x1 - (min (x1 - x2) 200)) - 2) false] (.tuple #[BV r, .int .u8 fl, .int .i64 er])) (cA : CK_ 104 #[W u2, W t2] (.tuple #[W s, .bool o])) :
  CR_ 26 #[.int .u8 f, .int .u8 m, BV a, BV b] w (.tuple #[BV r, .int .u8 fl, .int .i64 er]) := by
 have H := Own.start w
 have HT := Lib.hid hT
 clear hT
 go_enter Tryz.func26, Tryz.ntmps26
 exact walk1
theorem addAdd_FF0_zero (f m a b : Nat) (c1 s1 f1 : Nat) (x1 : Int) (c2 s2 f2 : Nat) (x2 : Int) (c3 s3 f3 : Nat) (x3 : Int) (w : World) (hT : Tab w) (cO : ∀ w g, Tab w → Blk 27 w g (cat2 (bc a) (bc b)) → CR_ 96 #[.int .u8 f, .int .u8 m, .slice (some ⟨g, 0, none⟩) 2 2] w (.tuple #[.agg (tri c1 s1 x1 f1 c2 s2 x2 f2 c3 s3 x3 f3), .bool true])) (cn1 : CK_ 97 #[PV c1 s1 x1 f1] (.bool false)) (cn2 : CK_ 97 #[PV c2 s2 x2 f2] (.bool false)) (ci1 : CK_ 99 #[PV c1 s1 x1 f1] (.bool false)) (ci2 : CK_ 99 #[PV c2 s2 x2 f2] (.bool false)) (cz1 : CK_ 100 #[PV c1 s1 x1 f1] (.bool false)) (cz2 : CK_ 100 #[PV c2 s2 x2 f2] (.bool false)) (hx1 : -40000 ≤ x1) (hx1b : x1 ≤ 40000) (hx2 : -40000 ≤ x2) (hx2b : x2 ≤ 40000) (hs : ¬ x1 < x2) (u1 u2 t1 t2 : Nat) (l1 l2 l3 b1 b2 : Bool) (cb1 : CK_ 103 #[PV c1 s1 x1 f1] (.bool b1)) (cb2 : CK_ 103 #[PV c2 s2 x2 f2] (.bool b2)) (cL1 : CK_ 101 #[W s1, .int .i64 (min (x1 - x2) 200)] (.tuple #[W u1, .bool l1])) (cL2 : CK_ 101 #[W s2, .int .i64 2] (.tuple #[W t1, .bool l2])) (cL3 : CK_ 101 #[W u1, .int .i64 2] (.tuple #[W u2, .bool l3])) (cJ : CT_ 102 #[W t1, .int .i64 ((x1 - (min (x1 - x2) 200)) - x2)] (W t2)) (hbb : (b1 == b2) = false) (cC : CK_ 46 #[W u2, W t2] (.int .i64 0)) (zz : Nat) (cZZ : CK_ 78 #[.int .u8 f, .bool ((m : Int) == 2)] (BV zz))  :
  CR_ 26 #[.int .u8 f, .int .u8 m, BV a, BV b] w (.tuple #[BV zz, .int .u8 0, .int .i64 0]) := by
 have H := Own.start w
 have HT := Lib.hid hT
 clear hT
 go_enter Tryz.func26, Tryz.ntmps26
 exact walk1
theorem addAdd_FF0_more (f m a b : Nat) (c1 s1 f1 : Nat) (x1 : Int) (c2 s2 f2 : Nat) (x2 : Int) (c3 s3 f3 : Nat) (x3 : Int) (w : World) (hT : Tab w) (cO : ∀ w g, Tab w → Blk 27 w g (cat2 (bc a) (bc b)) → CR_ 96 #[.int .u8 f, .int .u8 m, .slice (some ⟨g, 0, none⟩) 2 2] w (.tuple #[.agg (tri c1 s1 x1 f1 c2 s2 x2 f2 c3 s3 x3 f3), .bool true])) (cn1 : CK_ 97 #[PV c1 s1 x1 f1] (.bool false)) (cn2 : CK_ 97 #[PV c2 s2 x2 f2] (.bool false)) (ci1 : CK_ 99 #[PV c1 s1 x1 f1] (.bool false)) (ci2 : CK_ 99 #[PV c2 s2 x2 f2] (.bool false)) (cz1 : CK_ 100 #[PV c1 s1 x1 f1] (.bool false)) (cz2 : CK_ 100 #[PV c2 s2 x2 f2] (.bool false)) (hx1 : -40000 ≤ x1) (hx1b : x1 ≤ 40000) (hx2 : -40000 ≤ x2) (hx2b : x2 ≤ 40000) (hs : ¬ x1 < x2) (u1 u2 t1 t2 : Nat) (l1 l2 l3 b1 b2 : Bool) (cb1 : CK_ 103 #[PV c1 s1 x1 f1] (.bool b1)) (cb2 : CK_ 103 #[PV c2 s2 x2 f2] (.bool b2)) (cL1 : CK_ 101 #[W s1, .int .i64 (min (x1 - x2) 200)] (.tuple #[W u1, .bool l1])) (cL2 : CK_ 101 #[W s2, .int .i64 2] (.tuple #[W t1, .bool l2])) (cL3 : CK_ 101 #[W u1, .int .i64 2] (.tuple #[W u2, .bool l3])) (cJ : CT_ 102 #[W t1, .int .i64 ((x1 - (min (x1 - x2) 200)) - x2)] (W t2)) (hbb : (b1 == b2) = false) (cC : CK_ 46 #[W u2, W t2] (.int .i64 1)) (s r : Nat) (o : Bool) (fl er : Int) (cK : CT_ 61 #[.int .u8 f, .int .u8 m, RV b1 s ((x1 - (min (x1 - x2) 200)) - 2) false] (.tuple #[BV r, .int .u8 fl, .int .i64 er])) (cS : CK_ 105 #[W u2, W t2] (.tuple #[W s, .bool o])) :
  CR_ 26 #[.int .u8 f, .int .u8 m, BV a, BV b] w (.tuple #[BV r, .int .u8 fl, .int .i64 er]) := by
 have H := Own.start w
 have HT := Lib.hid hT
 clear hT
 go_enter Tryz.func26, Tryz.ntmps26
 exact walk1
theorem addAdd_FF0_less (f m a b : Nat) (c1 s1 f1 : Nat) (x1 : Int) (c2 s2 f2 : Nat) (x2 : Int) (c3 s3 f3 : Nat) (x3 : Int) (w : World) (hT : Tab w) (cO : ∀ w g, Tab w → Blk 27 w g (cat2 (bc a) (bc b)) → CR_ 96 #[.int .u8 f, .int .u8 m, .slice (some ⟨g, 0, none⟩) 2 2] w (.tuple #[.agg (tri c1 s1 x1 f1 c2 s2 x2 f2 c3 s3 x3 f3), .bool true])) (cn1 : CK_ 97 #[PV c1 s1 x1 f1] (.bool false)) (cn2 : CK_ 97 #[PV c2 s2 x2 f2] (.bool false)) (ci1 : CK_ 99 #[PV c1 s1 x1 f1] (.bool false)) (ci2 : CK_ 99 #[PV c2 s2 x2 f2] (.bool false)) (cz1 : CK_ 100 #[PV c1 s1 x1 f1] (.bool false)) (cz2 : CK_ 100 #[PV c2 s2 x2 f2] (.bool false)) (hx1 : -40000 ≤ x1) (hx1b : x1 ≤ 40000) (hx2 : -40000 ≤ x2) (hx2b : x2 ≤ 40000) (hs : ¬ x1 < x2) (u1 u2 t1 t2 : Nat) (l1 l2 l3 b1 b2 : Bool) (cb1 : CK_ 103 #[PV c1 s1 x1 f1] (.bool b1)) (cb2 : CK_ 103 #[PV c2 s2 x2 f2] (.bool b2)) (cL1 : CK_ 101 #[W s1, .int .i64 (min (x1 - x2) 200)] (.tuple #[W u1, .bool l1])) (cL2 : CK_ 101 #[W s2, .int .i64 2] (.tuple #[W t1, .bool l2])) (cL3 : CK_ 101 #[W u1, .int .i64 2] (.tuple #[W u2, .bool l3])) (cJ : CT_ 102 #[W t1, .int .i64 ((x1 - (min (x1 - x2) 200)) - x2)] (W t2)) (hbb : (b1 == b2) = false) (cC : CK_ 46 #[W u2, W t2] (.int .i64 (-1))) (s r : Nat) (o : Bool) (fl er : Int) (cK : CT_ 61 #[.int .u8 f, .int .u8 m, RV b2 s ((x1 - (min (x1 - x2) 200)) - 2) false] (.tuple #[BV r, .int .u8 fl, .int .i64 er])) (cS : CK_ 105 #[W t2, W u2] (.tuple #[W s, .bool o])) :
  CR_ 26 #[.int .u8 f, .int .u8 m, BV a, BV b] w (.tuple #[BV r, .int .u8 fl, .int .i64 er]) := by
 have H := Own.start w
 have HT := Lib.hid hT
 clear hT
 go_enter Tryz.func26, Tryz.ntmps26
 exact walk1
end Go.Proofs.YtgmhmpflmgfcdaaGreatDoor
