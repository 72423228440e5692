/- Part 39 of what is proved: Di3. -/
import Derived.Test.YtecdpjhifmlahaaGreatDoorHd1
import Derived.Test.YtecdpjhifmlahaaGreatDoorHd2
import Derived.Test.YtecdpjhifmlahaaGreatDoorHd37
set_option linter.unusedSimpArgs false
set_option linter.unusedVariables false
set_option linter.unnecessarySimpa false
set_option maxRecDepth 100000
set_option maxHeartbeats 1600000
namespace Go.Proofs.YtecdpjhifmlahaaGreatDoor
open Go.RowKit
theorem divDiv_ZF (f m a b : Nat) (c1 s1 f1 : Nat) (x1 : Int) (c2 s2 f2 : Nat) (x2 : Int) (c3 s3 f3 : Nat) (x3 : Int) (b1 b2 : Bool) (w : World) (hT : Tab w) (cO : ∀ w g, Tab w → Blk 27 w g (cat2 (bc a) (bc b)) → Calls Tryz.prog 107 #[.int .u8 f, .int .u8 m, .slice (some ⟨g, 0, none⟩) 2 2] w fun e w' => e = .returned (.tuple #[.agg (tri c1 s1 x1 f1 c2 s2 x2 f2 c3 s3 x3 f3), .bool true]) ∧ Below w.heap.size w w') (cb1 : CK_ 110 #[PV c1 s1 x1 f1] (.bool b1)) (cb2 : CK_ 110 #[PV c2 s2 x2 f2] (.bool b2)) (cn1 : CK_ 108 #[PV c1 s1 x1 f1] (.bool false)) (cs1 : CK_ 111 #[PV c1 s1 x1 f1] (.int .u8 110)) (cn2 : CK_ 108 #[PV c2 s2 x2 f2] (.bool false)) (cs2 : CK_ 111 #[PV c2 s2 x2 f2] (.int .u8 102)) (zz : Nat) (cZZ : CK_ 91 #[.int .u8 f, .bool (!(b1 == b2))] (BV zz)) :
    Calls Tryz.prog 31 #[.int .u8 f, .int .u8 m, BV a, BV b] w fun e w' => e = .returned (.tuple #[BV zz, .int .u8 0, .int .i64 0]) ∧ Below w.heap.size w w' := by
  have H := Own.start w
  have HT := Lib.hid hT
  clear hT
  go_enter Tryz.func31, Tryz.ntmps31
  exact walk1
theorem divDiv_FZ (f m a b : Nat) (c1 s1 f1 : Nat) (x1 : Int) (c2 s2 f2 : Nat) (x2 : Int) (c3 s3 f3 : Nat) (x3 : Int) (b1 b2 : Bool) (w : World) (hT : Tab w) (cO : ∀ w g, Tab w → Blk 27 w g (cat2 (bc a) (bc b)) → Calls Tryz.prog 107 #[.int .u8 f, .int .u8 m, .slice (some ⟨g, 0, none⟩) 2 2] w fun e w' => e = .returned (.tuple #[.agg (tri c1 s1 x1 f1 c2 s2 x2 f2 c3 s3 x3 f3), .bool true]) ∧ Below w.heap.size w w') (cb1 : CK_ 110 #[PV c1 s1 x1 f1] (.bool b1)) (cb2 : CK_ 110 #[PV c2 s2 x2 f2] (.bool b2)) (cn1 : CK_ 108 #[PV c1 s1 x1 f1] (.bool false)) (cs1 : CK_ 111 #[PV c1 s1 x1 f1] (.int .u8 102)) (cn2 : CK_ 108 #[PV c2 s2 x2 f2] (.bool false)) (cs2 : CK_ 111 #[PV c2 s2 x2 f2] (.int .u8 110)) (ii : Nat) (cII : CK_ 76 #[.int .u8 f, .bool (!(b1 == b2))] (BV ii)) :
    Calls Tryz.prog 31 #[.int .u8 f, .int .u8 m, BV a, BV b] w fun e w' => e = .returned (.tuple #[BV ii, .int .u8 8, .int .i64 0]) ∧ Below w.heap.size w w' := by
  have H := Own.start w
  have HT := Lib.hid hT
  clear hT
  go_enter Tryz.func31, Tryz.ntmps31
  exact walk1
theorem divDiv_FF (f m a b : Nat) (c1 s1 f1 : Nat) (x1 : Int) (c2 s2 f2 : Nat) (x2 : Int) (c3 s3 f3 : Nat) (x3 : Int) (b1 b2 : Bool) (w : World) (hT : Tab w) (cO : ∀ w g, Tab w → Blk 27 w g (cat2 (bc a) (bc b)) → Calls Tryz.prog 107 #[.int .u8 f, .int .u8 m, .slice (some ⟨g, 0, none⟩) 2 2] w fun e w' => e = .returned (.tuple #[.agg (tri c1 s1 x1 f1 c2 s2 x2 f2 c3 s3 x3 f3), .bool true]) ∧ Below w.heap.size w w') (cb1 : CK_ 110 #[PV c1 s1 x1 f1] (.bool b1)) (cb2 : CK_ 110 #[PV c2 s2 x2 f2] (.bool b2)) (cn1 : CK_ 108 #[PV c1 s1 x1 f1] (.bool false)) (cs1 : CK_ 111 #[PV c1 s1 x1 f1] (.int .u8 102)) (cn2 : CK_ 108 #[PV c2 s2 x2 f2] (.bool false)) (cs2 : CK_ 111 #[PV c2 s2 x2 f2] (.int .u8 102)) (hx1 : -40000 ≤ x1) (hx1b : x1 ≤ 40000) (hx2 : -40000 ≤ x2) (hx2b : x2 ≤ 40000) (p l1 l2 : Nat) (hp : p ≤ 113) (hl1 : l1 ≤ 384) (hl2 : l2 ≤ 384) (q : Nat) (mo : Bool) (r : Nat) (fl : Int) (er : Int) (cP : CK_ 102 #[.int .u8 f] (.int .i64 (p : Nat))) (cl1 : CK_ 103 #[W s1] (.int .i64 (l1 : Nat))) (cl2 : CK_ 103 #[W s2] (.int .i64 (l2 : Nat))) (cD : CK_ 112 #[W s1, W s2, .int .i64 (max ((p : Int) + 3 + (l2 : Int) - (l1 : Int)) 0)] (.tuple #[W q, .bool mo, .int .i64 0])) (cK : CT_ 61 #[.int .u8 f, .int .u8 m, RV (!(b1 == b2)) q (x1 - x2 - (max ((p : Int) + 3 + (l2 : Int) - (l1 : Int)) 0)) mo] (.tuple #[BV r, .int .u8 fl, .int .i64 er])) :
    Calls Tryz.prog 31 #[.int .u8 f, .int .u8 m, BV a, BV b] w fun e w' => e = .returned (.tuple #[BV r, .int .u8 fl, .int .i64 er]) ∧ Below w.heap.size w w' := by
  have H := Own.start w
  have HT := Lib.hid hT
  clear hT
  have v1 : IntKind.i64.wrap ((p : Int) + 3) = (p : Int) + 3 := IntWalk.i64_in _ (by omega)
  have v2 : IntKind.i64.wrap ((p : Int) + 3 + (l2 : Int)) = (p : Int) + 3 + (l2 : Int) := IntWalk.i64_in _ (by omega)
  have v3 : IntKind.i64.wrap ((p : Int) + 3 + (l2 : Int) - (l1 : Int)) = (p : Int) + 3 + (l2 : Int) - (l1 : Int) := IntWalk.i64_in _ (by omega)
  go_enter Tryz.func31, Tryz.ntmps31
  exact walk1
end Go.Proofs.YtecdpjhifmlahaaGreatDoor
