/- Part 27 of what is proved: Ad2. -/
import Derived.Test.YtbngedcblngnhaaDoorHs0
import Derived.Test.YtbngedcblngnhaaDoorHs1
import Derived.Test.YtbngedcblngnhaaDoorHs25
set_option linter.unusedSimpArgs false
set_option linter.unusedVariables false
set_option linter.unnecessarySimpa false
set_option maxRecDepth 100000
set_option maxHeartbeats 1600000
namespace Go.Proofs.YtbngedcblngnhaaDoor
open Go.RowKit
theorem addAdd_IF (f m a b : Nat) (c1 s1 f1 : Nat) (x1 : Int) (c2 s2 f2 : Nat) (x2 : Int) (c3 s3 f3 : Nat) (x3 : Int) (w : World) (hT : Tab w) (cO : ∀ w g, Tab w → Blk 26 w g (cat2 (bc a) (bc b)) → Calls Tryd.prog 28 #[.int .u8 f, .int .u8 m, .slice (some ⟨g, 0, none⟩) 2 2] w fun e w' => e = .returned (.tuple #[.agg (tri c1 s1 x1 f1 c2 s2 x2 f2 c3 s3 x3 f3), .bool true]) ∧ Below w.heap.size w w') (cn1 : ∀ w, Calls Tryd.prog 29 #[PV c1 s1 x1 f1] w fun e w' => e = .returned (.bool false) ∧ Below w.heap.size w w') (cn2 : ∀ w, Calls Tryd.prog 29 #[PV c2 s2 x2 f2] w fun e w' => e = .returned (.bool false) ∧ Below w.heap.size w w') (ci1 : ∀ w, Calls Tryd.prog 31 #[PV c1 s1 x1 f1] w fun e w' => e = .returned (.bool true) ∧ Below w.heap.size w w') (ci2 : ∀ w, Calls Tryd.prog 31 #[PV c2 s2 x2 f2] w fun e w' => e = .returned (.bool false) ∧ Below w.heap.size w w') (cz1 : ∀ w, Calls Tryd.prog 32 #[PV c1 s1 x1 f1] w fun e w' => e = .returned (.bool false) ∧ Below w.heap.size w w') (cz2 : ∀ w, Calls Tryd.prog 32 #[PV c2 s2 x2 f2] w fun e w' => e = .returned (.bool false) ∧ Below w.heap.size w w')  :
    Calls Tryd.prog 11 #[.int .u8 f, .int .u8 m, BV a, BV b] w fun e w' => e = .returned (.tuple #[BV a, .int .u8 0, .int .i64 0]) ∧ Below w.heap.size w w' := by
  have H := Own.start w
  have HT := Lib.hid hT
  clear hT
  go_enter Tryd.func11, Tryd.ntmps11
  exact walk4
theorem addAdd_IZ (f m a b : Nat) (c1 s1 f1 : Nat) (x1 : Int) (c2 s2 f2 : Nat) (x2 : Int) (c3 s3 f3 : Nat) (x3 : Int) (w : World) (hT : Tab w) (cO : ∀ w g, Tab w → Blk 26 w g (cat2 (bc a) (bc b)) → Calls Tryd.prog 28 #[.int .u8 f, .int .u8 m, .slice (some ⟨g, 0, none⟩) 2 2] w fun e w' => e = .returned (.tuple #[.agg (tri c1 s1 x1 f1 c2 s2 x2 f2 c3 s3 x3 f3), .bool true]) ∧ Below w.heap.size w w') (cn1 : ∀ w, Calls Tryd.prog 29 #[PV c1 s1 x1 f1] w fun e w' => e = .returned (.bool false) ∧ Below w.heap.size w w') (cn2 : ∀ w, Calls Tryd.prog 29 #[PV c2 s2 x2 f2] w fun e w' => e = .returned (.bool false) ∧ Below w.heap.size w w') (ci1 : ∀ w, Calls Tryd.prog 31 #[PV c1 s1 x1 f1] w fun e w' => e = .returned (.bool true) ∧ Below w.heap.size w w') (ci2 : ∀ w, Calls Tryd.prog 31 #[PV c2 s2 x2 f2] w fun e w' => e = .returned (.bool false) ∧ Below w.heap.size w w') (cz1 : ∀ w, Calls Tryd.prog 32 #[PV c1 s1 x1 f1] w fun e w' => e = .returned (.bool false) ∧ Below w.heap.size w w') (cz2 : ∀ w, Calls Tryd.prog 32 #[PV c2 s2 x2 f2] w fun e w' => e = .returned (.bool true) ∧ Below w.heap.size w w')  :
    Calls Tryd.prog 11 #[.int .u8 f, .int .u8 m, BV a, BV b] w fun e w' => e = .returned (.tuple #[BV a, .int .u8 0, .int .i64 0]) ∧ Below w.heap.size w w' := by
  have H := Own.start w
  have HT := Lib.hid hT
  clear hT
  go_enter Tryd.func11, Tryd.ntmps11
  exact walk4
theorem addAdd_FI (f m a b : Nat) (c1 s1 f1 : Nat) (x1 : Int) (c2 s2 f2 : Nat) (x2 : Int) (c3 s3 f3 : Nat) (x3 : Int) (w : World) (hT : Tab w) (cO : ∀ w g, Tab w → Blk 26 w g (cat2 (bc a) (bc b)) → Calls Tryd.prog 28 #[.int .u8 f, .int .u8 m, .slice (some ⟨g, 0, none⟩) 2 2] w fun e w' => e = .returned (.tuple #[.agg (tri c1 s1 x1 f1 c2 s2 x2 f2 c3 s3 x3 f3), .bool true]) ∧ Below w.heap.size w w') (cn1 : ∀ w, Calls Tryd.prog 29 #[PV c1 s1 x1 f1] w fun e w' => e = .returned (.bool false) ∧ Below w.heap.size w w') (cn2 : ∀ w, Calls Tryd.prog 29 #[PV c2 s2 x2 f2] w fun e w' => e = .returned (.bool false) ∧ Below w.heap.size w w') (ci1 : ∀ w, Calls Tryd.prog 31 #[PV c1 s1 x1 f1] w fun e w' => e = .returned (.bool false) ∧ Below w.heap.size w w') (ci2 : ∀ w, Calls Tryd.prog 31 #[PV c2 s2 x2 f2] w fun e w' => e = .returned (.bool true) ∧ Below w.heap.size w w') (cz1 : ∀ w, Calls Tryd.prog 32 #[PV c1 s1 x1 f1] w fun e w' => e = .returned (.bool false) ∧ Below w.heap.size w w') (cz2 : ∀ w, Calls Tryd.prog 32 #[PV c2 s2 x2 f2] w fun e w' => e = .returned (.bool false) ∧ Below w.heap.size w w')  :
    Calls Tryd.prog 11 #[.int .u8 f, .int .u8 m, BV a, BV b] w fun e w' => e = .returned (.tuple #[BV b, .int .u8 0, .int .i64 0]) ∧ Below w.heap.size w w' := by
  have H := Own.start w
  have HT := Lib.hid hT
  clear hT
  go_enter Tryd.func11, Tryd.ntmps11
  exact walk4
theorem addAdd_ZI (f m a b : Nat) (c1 s1 f1 : Nat) (x1 : Int) (c2 s2 f2 : Nat) (x2 : Int) (c3 s3 f3 : Nat) (x3 : Int) (w : World) (hT : Tab w) (cO : ∀ w g, Tab w → Blk 26 w g (cat2 (bc a) (bc b)) → Calls Tryd.prog 28 #[.int .u8 f, .int .u8 m, .slice (some ⟨g, 0, none⟩) 2 2] w fun e w' => e = .returned (.tuple #[.agg (tri c1 s1 x1 f1 c2 s2 x2 f2 c3 s3 x3 f3), .bool true]) ∧ Below w.heap.size w w') (cn1 : ∀ w, Calls Tryd.prog 29 #[PV c1 s1 x1 f1] w fun e w' => e = .returned (.bool false) ∧ Below w.heap.size w w') (cn2 : ∀ w, Calls Tryd.prog 29 #[PV c2 s2 x2 f2] w fun e w' => e = .returned (.bool false) ∧ Below w.heap.size w w') (ci1 : ∀ w, Calls Tryd.prog 31 #[PV c1 s1 x1 f1] w fun e w' => e = .returned (.bool false) ∧ Below w.heap.size w w') (ci2 : ∀ w, Calls Tryd.prog 31 #[PV c2 s2 x2 f2] w fun e w' => e = .returned (.bool true) ∧ Below w.heap.size w w') (cz1 : ∀ w, Calls Tryd.prog 32 #[PV c1 s1 x1 f1] w fun e w' => e = .returned (.bool true) ∧ Below w.heap.size w w') (cz2 : ∀ w, Calls Tryd.prog 32 #[PV c2 s2 x2 f2] w fun e w' => e = .returned (.bool false) ∧ Below w.heap.size w w')  :
    Calls Tryd.prog 11 #[.int .u8 f, .int .u8 m, BV a, BV b] w fun e w' => e = .returned (.tuple #[BV b, .int .u8 0, .int .i64 0]) ∧ Below w.heap.size w w' := by
  have H := Own.start w
  have HT := Lib.hid hT
  clear hT
  go_enter Tryd.func11, Tryd.ntmps11
  exact walk4
end Go.Proofs.YtbngedcblngnhaaDoor
