/- Part 43 of the proof. -/
import Derived.Test.YtgmhmpflmgfcdaaGreatDoorHq4
import Derived.Test.YtgmhmpflmgfcdaaGreatDoorHq5
import Derived.Test.YtgmhmpflmgfcdaaGreatDoorHq41
set_option linter.unusedSimpArgs false
set_option linter.unusedVariables false
set_option linter.unnecessarySimpa false
set_option maxRecDepth 100000
set_option maxHeartbeats 3200000
namespace Go.Proofs.YtgmhmpflmgfcdaaGreatDoor
open Go.RowKit
set_option maxHeartbeats 25600000 in
theorem fmaMulAdd_Z (f m a b c : Nat) (c1 s1 f1 : Nat) (x1 : Int) (c2 s2 f2 : Nat) (x2 : Int) (c3 s3 f3 : Nat) (x3 : Int) (w : World) (hT : Tab w) (n2 n3 i2 i3 z2 z3 b1 b2 b3 q : Bool) (hk2 : (n2 = true ∧ i2 = false ∧ z2 = false) ∨ (n2 = false ∧ i2 = true ∧ z2 = false) ∨ (n2 = false ∧ i2 = false ∧ z2 = true) ∨ (n2 = false ∧ i2 = false ∧ z2 = false)) (hk3 : (n3 = true ∧ i3 = false ∧ z3 = false) ∨ (n3 = false ∧ i3 = true ∧ z3 = false) ∨ (n3 = false ∧ i3 = false ∧ z3 = true) ∨ (n3 = false ∧ i3 = false ∧ z3 = false)) (hq : (b3 == !(b1 == b2)) = q) (nn cn ii zz s rp rs : Nat) (o : Bool) (fl flp fls erp ers : Int) (hx1 : -40000 ≤ x1) (hx1b : x1 ≤ 40000) (hx2 : -40000 ≤ x2) (hx2b : x2 ≤ 40000) (hx3 : -40000 ≤ x3) (hx3b : x3 ≤ 40000) (cO : ∀ w g, Tab w → Blk 27 w g (cat3 (bc a) (bc b) (bc c)) → CR_ 110 #[.int .u8 f, .int .u8 m, .slice (some ⟨g, 0, none⟩) 3 3] w (.tuple #[.agg (tri c1 s1 x1 f1 c2 s2 x2 f2 c3 s3 x3 f3), .bool true])) (cn1 : CK_ 114 #[PV c1 s1 x1 f1] (.bool false)) (cn2 : CK_ 114 #[PV c2 s2 x2 f2] (.bool n2)) (cn3 : CK_ 114 #[PV c3 s3 x3 f3] (.bool n3)) (ci1 : CK_ 113 #[PV c1 s1 x1 f1] (.bool false)) (ci2 : CK_ 113 #[PV c2 s2 x2 f2] (.bool i2)) (ci3 : CK_ 113 #[PV c3 s3 x3 f3] (.bool i3)) (cz1 : CK_ 112 #[PV c1 s1 x1 f1] (.bool true)) (cz2 : CK_ 112 #[PV c2 s2 x2 f2] (.bool z2)) (cz3 : CK_ 112 #[PV c3 s3 x3 f3] (.bool z3)) (cb1 : CK_ 111 #[PV c1 s1 x1 f1] (.bool b1)) (cb2 : CK_ 111 #[PV c2 s2 x2 f2] (.bool b2)) (cb3 : CK_ 111 #[PV c3 s3 x3 f3] (.bool b3)) (cNN : CK_ 76 #[.int .u8 f] (BV nn)) (cC : ∀ w g, Blk 100 w g (cat3 (parts c1 s1 x1 f1) (parts c2 s2 x2 f2) (parts c3 s3 x3 f3)) → CR_ 115 #[.int .u8 f, .slice (some ⟨g, 0, none⟩) 3 3] w (.tuple #[BV cn, .int .u8 fl, .int .i64 0])) (cII : CK_ 77 #[.int .u8 f, .bool (!(b1 == b2))] (BV ii)) (cZZ : CK_ 78 #[.int .u8 f, .bool ((m : Int) == 2)] (BV zz)) (cM : CK_ 116 #[W s1, W s2] (.tuple #[W s, .bool o]))  :
  CR_ 33 #[.int .u8 f, .int .u8 m, BV a, BV b, BV c] w (fmaOut false n2 n3 false i2 i3 true z2 z3 q (.tuple #[BV nn, .int .u8 16, .int .i64 0]) (.tuple #[BV cn, .int .u8 fl, .int .i64 0]) (.tuple #[BV ii, .int .u8 0, .int .i64 0]) (.tuple #[BV c, .int .u8 0, .int .i64 0]) (.tuple #[BV zz, .int .u8 0, .int .i64 0]) (.tuple #[BV rp, .int .u8 flp, .int .i64 erp]) (.tuple #[BV rs, .int .u8 fls, .int .i64 ers])) := by
 have H := Own.start w
 have HT := Lib.hid hT
 clear hT
 go_enter Tryz.func33, Tryz.ntmps33
 exact walk1
end Go.Proofs.YtgmhmpflmgfcdaaGreatDoor
