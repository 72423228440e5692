/- Part 30 of what is proved: Tcv. -/
import Derived.Test.YtgmhmpflmgfcdaaGreatDoorHt1
import Derived.Test.YtgmhmpflmgfcdaaGreatDoorHt2
import Derived.Test.YtgmhmpflmgfcdaaGreatDoorHt29
set_option linter.unusedSimpArgs false
set_option linter.unusedVariables false
set_option linter.unnecessarySimpa false
set_option maxRecDepth 100000
set_option maxHeartbeats 1600000
namespace Go.Proofs.YtgmhmpflmgfcdaaGreatDoor
open Go.RowKit
theorem results_ttt {fn : Func} {t u v : Tmp} {tmps : Array Value} {P : Program} {w : World} (h : fn.results = #[.tmp t, .tmp u, .tmp v]) :
    (results fn tmps).run P w = .ok (.tuple #[tmps.getD t undef, tmps.getD u undef, tmps.getD v undef]) w := by simp [results, h]
theorem tointConvert_kind (k f m a : Nat) (w : World) (hk : 4 ≤ k) :
    Calls Tryz.prog 12 #[.int .u8 k, .int .u8 f, .int .u8 m, BV a] w fun e w' => e = .returned (.tuple #[.int .u64 0, .int .u8 0, .int .i64 2]) ∧ Below w.heap.size w w' := by
  have H := Own.start w
  have k3 : 3 < (k : Int) := by omega
  go_enter Tryz.func12, Tryz.ntmps12
  exact walk1
theorem tointConvert_arg (k f m a n low high : Nat) (neg ex : Bool) (w : World) (hT : Tab w) (hk : k < 4) (cW : CT_ 42 #[.int .u8 f, .int .u8 m, BV a] (.tuple #[.bool neg, W n, .bool ex, .int .i64 2])) (cE : CK_ 43 #[.int .u8 k] (.tuple #[.int .u64 (low : Nat), .int .u64 (high : Nat)])) :
    Calls Tryz.prog 12 #[.int .u8 k, .int .u8 f, .int .u8 m, BV a] w fun e w' => e = .returned (.tuple #[.int .u64 0, .int .u8 0, .int .i64 2]) ∧ Below w.heap.size w w' := by
  have H := Own.start w
  have HT := Lib.hid hT
  clear hT
  have k3 : ¬ 3 < (k : Int) := by omega
  go_enter Tryz.func12, Tryz.ntmps12
  exact walk1
theorem tointConvert_none_t (k f m a n low high : Nat) (c : Nat) (t er ce : Int) (neg ex : Bool) (w : World) (hT : Tab w) (hk : k < 4) (e2 : (er == 2) = false) (e0 : (er == 0) = false) (hc : (c : Int) < 4) (cW : CT_ 42 #[.int .u8 f, .int .u8 m, BV a] (.tuple #[.bool neg, W n, .bool ex, .int .i64 er])) (cE : CK_ 43 #[.int .u8 k] (.tuple #[.int .u64 (low : Nat), .int .u64 (high : Nat)])) (cC : CT_ 44 #[.int .u8 f, BV a] (.tuple #[.int .u8 (c : Nat), .int .i64 ce])) (cT : ∀ w, Calls Tryz.prog 45 #[.int .u8 k, .bool true, .int .u64 (low : Nat)] w fun e w' => e = .returned (.int .u64 t) ∧ w = w') :
    Calls Tryz.prog 12 #[.int .u8 k, .int .u8 f, .int .u8 m, BV a] w fun e w' => e = .returned (.tuple #[.int .u64 t, .int .u8 16, .int .i64 0]) ∧ Below w.heap.size w w' := by
  have H := Own.start w
  have HT := Lib.hid hT
  clear hT
  have k3 : ¬ 3 < (k : Int) := by omega
  go_enter Tryz.func12, Tryz.ntmps12
  exact walk1
theorem tointConvert_none_f (k f m a n low high : Nat) (c : Nat) (t er ce : Int) (neg ex : Bool) (w : World) (hT : Tab w) (hk : k < 4) (e2 : (er == 2) = false) (e0 : (er == 0) = false) (hc : ¬ (c : Int) < 4) (cW : CT_ 42 #[.int .u8 f, .int .u8 m, BV a] (.tuple #[.bool neg, W n, .bool ex, .int .i64 er])) (cE : CK_ 43 #[.int .u8 k] (.tuple #[.int .u64 (low : Nat), .int .u64 (high : Nat)])) (cC : CT_ 44 #[.int .u8 f, BV a] (.tuple #[.int .u8 (c : Nat), .int .i64 ce])) (cT : ∀ w, Calls Tryz.prog 45 #[.int .u8 k, .bool false, .int .u64 (high : Nat)] w fun e w' => e = .returned (.int .u64 t) ∧ w = w') :
    Calls Tryz.prog 12 #[.int .u8 k, .int .u8 f, .int .u8 m, BV a] w fun e w' => e = .returned (.tuple #[.int .u64 t, .int .u8 16, .int .i64 0]) ∧ Below w.heap.size w w' := by
  have H := Own.start w
  have HT := Lib.hid hT
  clear hT
  have k3 : ¬ 3 < (k : Int) := by omega
  go_enter Tryz.func12, Tryz.ntmps12
  exact walk1
theorem tointConvert_out_t (k f m a n low high : Nat) (t cm : Int) (ex : Bool) (w : World) (hT : Tab w) (hk : k < 4) (hcm : 0 < cm) (cW : CT_ 42 #[.int .u8 f, .int .u8 m, BV a] (.tuple #[.bool true, W n, .bool ex, .int .i64 0])) (cE : CK_ 43 #[.int .u8 k] (.tuple #[.int .u64 (low : Nat), .int .u64 (high : Nat)])) (cO : CK_ 47 #[.int .u64 (low : Nat)] (W low)) (cQ : CK_ 46 #[W n, W low] (.int .i64 cm)) (cT : ∀ w, Calls Tryz.prog 45 #[.int .u8 k, .bool true, .int .u64 (low : Nat)] w fun e w' => e = .returned (.int .u64 t) ∧ w = w') :
    Calls Tryz.prog 12 #[.int .u8 k, .int .u8 f, .int .u8 m, BV a] w fun e w' => e = .returned (.tuple #[.int .u64 t, .int .u8 16, .int .i64 0]) ∧ Below w.heap.size w w' := by
  have H := Own.start w
  have HT := Lib.hid hT
  clear hT
  have k3 : ¬ 3 < (k : Int) := by omega
  have hcm2 : decide (0 < cm) = true := by simpa using hcm
  go_enter Tryz.func12, Tryz.ntmps12
  exact walk1
theorem tointConvert_in_tt (k f m a n low high : Nat) (t cm : Int) (w : World) (hT : Tab w) (hk : k < 4) (hcm : ¬ 0 < cm) (cW : CT_ 42 #[.int .u8 f, .int .u8 m, BV a] (.tuple #[.bool true, W n, .bool true, .int .i64 0])) (cE : CK_ 43 #[.int .u8 k] (.tuple #[.int .u64 (low : Nat), .int .u64 (high : Nat)])) (cO : CK_ 47 #[.int .u64 (low : Nat)] (W low)) (cQ : CK_ 46 #[W n, W low] (.int .i64 cm)) (cT : ∀ w, Calls Tryz.prog 45 #[.int .u8 k, .bool true, .int .u64 (limb n 0)] w fun e w' => e = .returned (.int .u64 t) ∧ w = w') :
    Calls Tryz.prog 12 #[.int .u8 k, .int .u8 f, .int .u8 m, BV a] w fun e w' => e = .returned (.tuple #[.int .u64 t, .int .u8 0, .int .i64 0]) ∧ Below w.heap.size w w' := by
  have H := Own.start w
  have HT := Lib.hid hT
  clear hT
  have k3 : ¬ 3 < (k : Int) := by omega
  have hcm2 : decide (0 < cm) = false := by simpa using hcm
  go_enter Tryz.func12, Tryz.ntmps12
  exact walk1
theorem tointConvert_in_tf (k f m a n low high : Nat) (t cm : Int) (w : World) (hT : Tab w) (hk : k < 4) (hcm : ¬ 0 < cm) (cW : CT_ 42 #[.int .u8 f, .int .u8 m, BV a] (.tuple #[.bool true, W n, .bool false, .int .i64 0])) (cE : CK_ 43 #[.int .u8 k] (.tuple #[.int .u64 (low : Nat), .int .u64 (high : Nat)])) (cO : CK_ 47 #[.int .u64 (low : Nat)] (W low)) (cQ : CK_ 46 #[W n, W low] (.int .i64 cm)) (cT : ∀ w, Calls Tryz.prog 45 #[.int .u8 k, .bool true, .int .u64 (limb n 0)] w fun e w' => e = .returned (.int .u64 t) ∧ w = w') :
    Calls Tryz.prog 12 #[.int .u8 k, .int .u8 f, .int .u8 m, BV a] w fun e w' => e = .returned (.tuple #[.int .u64 t, .int .u8 1, .int .i64 0]) ∧ Below w.heap.size w w' := by
  have H := Own.start w
  have HT := Lib.hid hT
  clear hT
  have k3 : ¬ 3 < (k : Int) := by omega
  have hcm2 : decide (0 < cm) = false := by simpa using hcm
  go_enter Tryz.func12, Tryz.ntmps12
  exact walk1
theorem tointConvert_out_f (k f m a n low high : Nat) (t cm : Int) (ex : Bool) (w : World) (hT : Tab w) (hk : k < 4) (hcm : 0 < cm) (cW : CT_ 42 #[.int .u8 f, .int .u8 m, BV a] (.tuple #[.bool false, W n, .bool ex, .int .i64 0])) (cE : CK_ 43 #[.int .u8 k] (.tuple #[.int .u64 (low : Nat), .int .u64 (high : Nat)])) (cO : CK_ 47 #[.int .u64 (high : Nat)] (W high)) (cQ : CK_ 46 #[W n, W high] (.int .i64 cm)) (cT : ∀ w, Calls Tryz.prog 45 #[.int .u8 k, .bool false, .int .u64 (high : Nat)] w fun e w' => e = .returned (.int .u64 t) ∧ w = w') :
    Calls Tryz.prog 12 #[.int .u8 k, .int .u8 f, .int .u8 m, BV a] w fun e w' => e = .returned (.tuple #[.int .u64 t, .int .u8 16, .int .i64 0]) ∧ Below w.heap.size w w' := by
  have H := Own.start w
  have HT := Lib.hid hT
  clear hT
  have k3 : ¬ 3 < (k : Int) := by omega
  have hcm2 : decide (0 < cm) = true := by simpa using hcm
  go_enter Tryz.func12, Tryz.ntmps12
  exact walk1
theorem tointConvert_in_ft (k f m a n low high : Nat) (t cm : Int) (w : World) (hT : Tab w) (hk : k < 4) (hcm : ¬ 0 < cm) (cW : CT_ 42 #[.int .u8 f, .int .u8 m, BV a] (.tuple #[.bool false, W n, .bool true, .int .i64 0])) (cE : CK_ 43 #[.int .u8 k] (.tuple #[.int .u64 (low : Nat), .int .u64 (high : Nat)])) (cO : CK_ 47 #[.int .u64 (high : Nat)] (W high)) (cQ : CK_ 46 #[W n, W high] (.int .i64 cm)) (cT : ∀ w, Calls Tryz.prog 45 #[.int .u8 k, .bool false, .int .u64 (limb n 0)] w fun e w' => e = .returned (.int .u64 t) ∧ w = w') :
    Calls Tryz.prog 12 #[.int .u8 k, .int .u8 f, .int .u8 m, BV a] w fun e w' => e = .returned (.tuple #[.int .u64 t, .int .u8 0, .int .i64 0]) ∧ Below w.heap.size w w' := by
  have H := Own.start w
  have HT := Lib.hid hT
  clear hT
  have k3 : ¬ 3 < (k : Int) := by omega
  have hcm2 : decide (0 < cm) = false := by simpa using hcm
  go_enter Tryz.func12, Tryz.ntmps12
  exact walk1
theorem tointConvert_in_ff (k f m a n low high : Nat) (t cm : Int) (w : World) (hT : Tab w) (hk : k < 4) (hcm : ¬ 0 < cm) (cW : CT_ 42 #[.int .u8 f, .int .u8 m, BV a] (.tuple #[.bool false, W n, .bool false, .int .i64 0])) (cE : CK_ 43 #[.int .u8 k] (.tuple #[.int .u64 (low : Nat), .int .u64 (high : Nat)])) (cO : CK_ 47 #[.int .u64 (high : Nat)] (W high)) (cQ : CK_ 46 #[W n, W high] (.int .i64 cm)) (cT : ∀ w, Calls Tryz.prog 45 #[.int .u8 k, .bool false, .int .u64 (limb n 0)] w fun e w' => e = .returned (.int .u64 t) ∧ w = w') :
    Calls Tryz.prog 12 #[.int .u8 k, .int .u8 f, .int .u8 m, BV a] w fun e w' => e = .returned (.tuple #[.int .u64 t, .int .u8 1, .int .i64 0]) ∧ Below w.heap.size w w' := by
  have H := Own.start w
  have HT := Lib.hid hT
  clear hT
  have k3 : ¬ 3 < (k : Int) := by omega
  have hcm2 : decide (0 < cm) = false := by simpa using hcm
  go_enter Tryz.func12, Tryz.ntmps12
  exact walk1
end Go.Proofs.YtgmhmpflmgfcdaaGreatDoor
