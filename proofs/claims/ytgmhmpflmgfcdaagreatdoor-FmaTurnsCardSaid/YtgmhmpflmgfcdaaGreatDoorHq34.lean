/- Part 34 of the proof. -/
import Derived.Test.YtgmhmpflmgfcdaaGreatDoorHq4
import Derived.Test.YtgmhmpflmgfcdaaGreatDoorHq5
import Derived.Test.YtgmhmpflmgfcdaaGreatDoorHq33
set_option linter.unusedSimpArgs false
set_option linter.unusedVariables false
set_option linter.unnecessarySimpa false
set_option maxRecDepth 100000
set_option maxHeartbeats 3200000
namespace Go.Proofs.YtgmhmpflmgfcdaaGreatDoor
open Go.RowKit Go.Proofs.YtgmhmpflmgfcdaaGreatDoorW.PrintWords Go.Proofs.YtgmhmpflmgfcdaaGreatDoor.PDivQuotients
theorem r8Of_x (f : Nat) (neg : Bool) (nn dd : ByteArray) (ee : Int) (w : World) (p x : Nat) (te er mn : Int) (hp : p ≤ 113) (h1p : 11 ≤ p) (he1 : -2000000 ≤ te) (he2 : te ≤ 2000000) (hm1 : -20000 ≤ mn) (hm2 : mn ≤ 20000) (q1 : nn.toList.isEmpty = false) (q1' : ¬ (nn.toList = [])) (cP : CK_ 166 #[.int .u8 f] (.int .i64 (p : Nat))) (cT : CK_ 197 #[.agg (exC neg nn dd ee)] (.tuple #[.int .i64 te, .int .i64 er])) (q2 : (dd.toList == ([1] : List UInt8)) = true) (q2' : (dd.toList = [1])) (cX : CK_ 178 #[.int .u8 f] (.int .i64 (x : Nat))) (q3 : decide ((x : Int) < te) = true)  :
  CR_ 213 #[.int .u8 f, .agg (exC neg nn dd ee)] w (.tuple #[BV 0, .bool false]) := by
 have H := Own.start w
 go_enter Tryz.func213, Tryz.ntmps213
 exact walk2
theorem r8Of_et (f : Nat) (neg : Bool) (nn dd : ByteArray) (ee : Int) (w : World) (p x : Nat) (te er mn : Int) (hp : p ≤ 113) (h1p : 11 ≤ p) (he1 : -2000000 ≤ te) (he2 : te ≤ 2000000) (hm1 : -20000 ≤ mn) (hm2 : mn ≤ 20000) (q1 : nn.toList.isEmpty = false) (q1' : ¬ (nn.toList = [])) (cP : CK_ 166 #[.int .u8 f] (.int .i64 (p : Nat))) (cT : CK_ 197 #[.agg (exC neg nn dd ee)] (.tuple #[.int .i64 te, .int .i64 er])) (q2 : (dd.toList == ([1] : List UInt8)) = true) (q2' : (dd.toList = [1])) (cX : CK_ 178 #[.int .u8 f] (.int .i64 (x : Nat))) (q3 : decide ((x : Int) < te) = false) (cM : CK_ 210 #[.int .u8 f] (.int .i64 mn)) (q4 : decide (te < mn) = true) (q5 : decide (ee < (mn - (p : Int) + 1)) = true) :
  CR_ 213 #[.int .u8 f, .agg (exC neg nn dd ee)] w (.tuple #[BV 0, .bool false]) := by
 have H := Own.start w
 go_enter Tryz.func213, Tryz.ntmps213
 exact walk2
theorem r8Of_st (f : Nat) (neg : Bool) (nn dd : ByteArray) (ee : Int) (w : World) (p x v l n2 t u : Nat) (xx ok lo : Bool) (er2 : Int) (te er mn : Int) (hp : p ≤ 113) (h1p : 11 ≤ p) (he1 : -2000000 ≤ te) (he2 : te ≤ 2000000) (hm1 : -20000 ≤ mn) (hm2 : mn ≤ 20000) (q1 : nn.toList.isEmpty = false) (q1' : ¬ (nn.toList = [])) (cP : CK_ 166 #[.int .u8 f] (.int .i64 (p : Nat))) (cT : CK_ 197 #[.agg (exC neg nn dd ee)] (.tuple #[.int .i64 te, .int .i64 er])) (q2 : (dd.toList == ([1] : List UInt8)) = true) (q2' : (dd.toList = [1])) (cX : CK_ 178 #[.int .u8 f] (.int .i64 (x : Nat))) (q3 : decide ((x : Int) < te) = false) (cM : CK_ 210 #[.int .u8 f] (.int .i64 mn)) (q4 : decide (te < mn) = true) (q5 : decide (ee < (mn - (p : Int) + 1)) = false) (cF : CK_ 130 #[.agg (exC neg nn dd ee), .int .i64 (mn - (p : Int) + 1)] (.tuple #[.string (strB v), .bool xx, .int .i64 er2])) (cW : CK_ 59 #[.string (strB v)] (.tuple #[W v, .bool ok])) (cL : CK_ 125 #[W v] (.int .i64 (l : Nat))) (q6 : decide ((l : Int) < (p : Int)) = true) (q6' : l < p) (cB : CK_ 167 #[.int .u8 f, .bool neg, .int .i64 0, W v] (BV t)) :
  CR_ 213 #[.int .u8 f, .agg (exC neg nn dd ee)] w (.tuple #[BV t, .bool true]) := by
 have H := Own.start w
 go_enter Tryz.func213, Tryz.ntmps213
 exact walk2
theorem r8Of_nt (f : Nat) (neg : Bool) (nn dd : ByteArray) (ee : Int) (w : World) (p x v l n2 t u : Nat) (xx ok lo : Bool) (er2 : Int) (te er mn : Int) (hp : p ≤ 113) (h1p : 11 ≤ p) (he1 : -2000000 ≤ te) (he2 : te ≤ 2000000) (hm1 : -20000 ≤ mn) (hm2 : mn ≤ 20000) (q1 : nn.toList.isEmpty = false) (q1' : ¬ (nn.toList = [])) (cP : CK_ 166 #[.int .u8 f] (.int .i64 (p : Nat))) (cT : CK_ 197 #[.agg (exC neg nn dd ee)] (.tuple #[.int .i64 te, .int .i64 er])) (q2 : (dd.toList == ([1] : List UInt8)) = true) (q2' : (dd.toList = [1])) (cX : CK_ 178 #[.int .u8 f] (.int .i64 (x : Nat))) (q3 : decide ((x : Int) < te) = false) (cM : CK_ 210 #[.int .u8 f] (.int .i64 mn)) (q4 : decide (te < mn) = true) (q5 : decide (ee < (mn - (p : Int) + 1)) = false) (cF : CK_ 130 #[.agg (exC neg nn dd ee), .int .i64 (mn - (p : Int) + 1)] (.tuple #[.string (strB v), .bool xx, .int .i64 er2])) (cW : CK_ 59 #[.string (strB v)] (.tuple #[W v, .bool ok])) (cL : CK_ 125 #[W v] (.int .i64 (l : Nat))) (w1 : IntKind.i64.wrap ((p : Int) - 1) = (p : Int) - 1) (w2 : IntKind.i64.wrap ((mn - (p : Int) + 1) - mn) = (mn - (p : Int) + 1) - mn) (w3 : IntKind.i64.wrap ((mn - (p : Int) + 1) - mn + (p : Int)) = (mn - (p : Int) + 1) - mn + (p : Int)) (q6 : decide ((l : Int) < (p : Int)) = false) (q6' : ¬ l < p) (cK : CK_ 194 #[.int .i64 ((p : Int) - 1)] (W n2)) (cA : CK_ 193 #[W v, W n2] (W u)) (cB : CK_ 167 #[.int .u8 f, .bool neg, .int .i64 ((mn - (p : Int) + 1) - mn + (p : Int)), W u] (BV t)) :
  CR_ 213 #[.int .u8 f, .agg (exC neg nn dd ee)] w (.tuple #[BV t, .bool true]) := by
 have H := Own.start w
 go_enter Tryz.func213, Tryz.ntmps213
 exact walk2
theorem r8Of_ef (f : Nat) (neg : Bool) (nn dd : ByteArray) (ee : Int) (w : World) (p x : Nat) (te er mn : Int) (hp : p ≤ 113) (h1p : 11 ≤ p) (he1 : -2000000 ≤ te) (he2 : te ≤ 2000000) (hm1 : -20000 ≤ mn) (hm2 : mn ≤ 20000) (q1 : nn.toList.isEmpty = false) (q1' : ¬ (nn.toList = [])) (cP : CK_ 166 #[.int .u8 f] (.int .i64 (p : Nat))) (cT : CK_ 197 #[.agg (exC neg nn dd ee)] (.tuple #[.int .i64 te, .int .i64 er])) (q2 : (dd.toList == ([1] : List UInt8)) = true) (q2' : (dd.toList = [1])) (cX : CK_ 178 #[.int .u8 f] (.int .i64 (x : Nat))) (q3 : decide ((x : Int) < te) = false) (cM : CK_ 210 #[.int .u8 f] (.int .i64 mn)) (q4 : decide (te < mn) = false) (q5 : decide (ee < (te - (p : Int) + 1)) = true) :
  CR_ 213 #[.int .u8 f, .agg (exC neg nn dd ee)] w (.tuple #[BV 0, .bool false]) := by
 have H := Own.start w
 go_enter Tryz.func213, Tryz.ntmps213
 exact walk2
theorem r8Of_sf (f : Nat) (neg : Bool) (nn dd : ByteArray) (ee : Int) (w : World) (p x v l n2 t u : Nat) (xx ok lo : Bool) (er2 : Int) (te er mn : Int) (hp : p ≤ 113) (h1p : 11 ≤ p) (he1 : -2000000 ≤ te) (he2 : te ≤ 2000000) (hm1 : -20000 ≤ mn) (hm2 : mn ≤ 20000) (q1 : nn.toList.isEmpty = false) (q1' : ¬ (nn.toList = [])) (cP : CK_ 166 #[.int .u8 f] (.int .i64 (p : Nat))) (cT : CK_ 197 #[.agg (exC neg nn dd ee)] (.tuple #[.int .i64 te, .int .i64 er])) (q2 : (dd.toList == ([1] : List UInt8)) = true) (q2' : (dd.toList = [1])) (cX : CK_ 178 #[.int .u8 f] (.int .i64 (x : Nat))) (q3 : decide ((x : Int) < te) = false) (cM : CK_ 210 #[.int .u8 f] (.int .i64 mn)) (q4 : decide (te < mn) = false) (q5 : decide (ee < (te - (p : Int) + 1)) = false) (cF : CK_ 130 #[.agg (exC neg nn dd ee), .int .i64 (te - (p : Int) + 1)] (.tuple #[.string (strB v), .bool xx, .int .i64 er2])) (cW : CK_ 59 #[.string (strB v)] (.tuple #[W v, .bool ok])) (cL : CK_ 125 #[W v] (.int .i64 (l : Nat))) (q6 : decide ((l : Int) < (p : Int)) = true) (q6' : l < p) (cB : CK_ 167 #[.int .u8 f, .bool neg, .int .i64 0, W v] (BV t)) :
  CR_ 213 #[.int .u8 f, .agg (exC neg nn dd ee)] w (.tuple #[BV t, .bool true]) := by
 have H := Own.start w
 go_enter Tryz.func213, Tryz.ntmps213
 exact walk2
theorem r8Of_nf (f : Nat) (neg : Bool) (nn dd : ByteArray) (ee : Int) (w : World) (p x v l n2 t u : Nat) (xx ok lo : Bool) (er2 : Int) (te er mn : Int) (hp : p ≤ 113) (h1p : 11 ≤ p) (he1 : -2000000 ≤ te) (he2 : te ≤ 2000000) (hm1 : -20000 ≤ mn) (hm2 : mn ≤ 20000) (q1 : nn.toList.isEmpty = false) (q1' : ¬ (nn.toList = [])) (cP : CK_ 166 #[.int .u8 f] (.int .i64 (p : Nat))) (cT : CK_ 197 #[.agg (exC neg nn dd ee)] (.tuple #[.int .i64 te, .int .i64 er])) (q2 : (dd.toList == ([1] : List UInt8)) = true) (q2' : (dd.toList = [1])) (cX : CK_ 178 #[.int .u8 f] (.int .i64 (x : Nat))) (q3 : decide ((x : Int) < te) = false) (cM : CK_ 210 #[.int .u8 f] (.int .i64 mn)) (q4 : decide (te < mn) = false) (q5 : decide (ee < (te - (p : Int) + 1)) = false) (cF : CK_ 130 #[.agg (exC neg nn dd ee), .int .i64 (te - (p : Int) + 1)] (.tuple #[.string (strB v), .bool xx, .int .i64 er2])) (cW : CK_ 59 #[.string (strB v)] (.tuple #[W v, .bool ok])) (cL : CK_ 125 #[W v] (.int .i64 (l : Nat))) (w1 : IntKind.i64.wrap ((p : Int) - 1) = (p : Int) - 1) (w2 : IntKind.i64.wrap ((te - (p : Int) + 1) - mn) = (te - (p : Int) + 1) - mn) (w3 : IntKind.i64.wrap ((te - (p : Int) + 1) - mn + (p : Int)) = (te - (p : Int) + 1) - mn + (p : Int)) (q6 : decide ((l : Int) < (p : Int)) = false) (q6' : ¬ l < p) (cK : CK_ 194 #[.int .i64 ((p : Int) - 1)] (W n2)) (cA : CK_ 193 #[W v, W n2] (W u)) (cB : CK_ 167 #[.int .u8 f, .bool neg, .int .i64 ((te - (p : Int) + 1) - mn + (p : Int)), W u] (BV t)) :
  CR_ 213 #[.int .u8 f, .agg (exC neg nn dd ee)] w (.tuple #[BV t, .bool true]) := by
 have H := Own.start w
 go_enter Tryz.func213, Tryz.ntmps213
 exact walk2
end Go.Proofs.YtgmhmpflmgfcdaaGreatDoor
