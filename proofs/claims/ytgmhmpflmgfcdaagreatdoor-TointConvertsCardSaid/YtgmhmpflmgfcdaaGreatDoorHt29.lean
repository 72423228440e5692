/- Part 29 of what is proved: Opb, Rc, R19c, R19d, Twh, Twi, Twk, Twa, Told, Wcmp. -/
import Derived.Outline
import Derived.Deep.RegionWith
import Derived.Deep.QuietTactic
import Derived.BigQuiet
import Derived.Test.YtgmhmpflmgfcdaaGreatDoorHt1
import Derived.Test.YtgmhmpflmgfcdaaGreatDoorHt2
import Derived.Test.YtgmhmpflmgfcdaaGreatDoorHt3
import Derived.Test.YtgmhmpflmgfcdaaGreatDoorHt4
import Derived.Test.YtgmhmpflmgfcdaaGreatDoorHt5
import Derived.Test.YtgmhmpflmgfcdaaGreatDoorHt6
import Derived.Test.YtgmhmpflmgfcdaaGreatDoorHt27
import Derived.Test.YtgmhmpflmgfcdaaGreatDoorHt28
set_option linter.unusedSimpArgs false
set_option linter.unusedVariables false
set_option linter.unnecessarySimpa false
set_option maxRecDepth 100000
set_option maxHeartbeats 1600000
namespace Go.Proofs.YtgmhmpflmgfcdaaGreatDoor
open Go.RowKit
theorem app_get (p q r : Array Value) (hp : p.size = 14) (hq : q.size = 14) (hr : r.size = 14) (j : Nat) : (p ++ q ++ r)[j]? = if j < 14 then p[j]? else if j < 28 then q[j - 14]? else r[j - 28]? := by
  rw [Array.getElem?_append, Array.getElem?_append, Array.size_append, hp, hq]
  by_cases h1 : j < 14
  · rw [if_pos (by omega), if_pos h1, if_pos h1]
  · by_cases h2 : j < 28
    · rw [if_pos (by omega), if_neg h1, if_neg h1, if_pos h2]
    · rw [if_neg (by omega), if_neg h1, if_neg h2]
theorem app_size (p q r : Array Value) (hp : p.size = 14) (hq : q.size = 14) (hr : r.size = 14) : (p ++ q ++ r).size = 42 := by rw [Array.size_append, Array.size_append, hp, hq, hr]
theorem set_app0 (p q r v : Array Value) (hp : p.size = 14) (hq : q.size = 14) (hr : r.size = 14) (hv : v.size = 14) : setRow (p ++ q ++ r) 0 v.toList = v ++ q ++ r := by
  apply Array.ext_getElem?
  intro j
  rw [setRow_at _ _ _ _ (by rw [app_size p q r hp hq hr]; omega), app_get p q r hp hq hr, app_get v q r hv hq hr, hv, if_neg (by omega)]
  by_cases h1 : j < 14
  · rw [if_pos (by omega), if_pos h1]; rfl
  · rw [if_neg (by omega), if_neg h1, if_neg h1]
theorem set_app1 (p q r v : Array Value) (hp : p.size = 14) (hq : q.size = 14) (hr : r.size = 14) (hv : v.size = 14) : setRow (p ++ q ++ r) 14 v.toList = p ++ v ++ r := by
  apply Array.ext_getElem?
  intro j
  rw [setRow_at _ _ _ _ (by rw [app_size p q r hp hq hr]; omega), app_get p q r hp hq hr, app_get p v r hp hv hr, hv]
  by_cases h1 : j < 14
  · rw [if_pos (by omega), if_pos h1, if_pos h1]
  · by_cases h2 : j < 28
    · rw [if_neg (by omega), if_pos (by omega), if_neg h1, if_pos h2]
    · rw [if_neg (by omega), if_neg (by omega), if_neg h1, if_neg h2, if_neg h1, if_neg h2]
theorem set_app2 (p q r v : Array Value) (hp : p.size = 14) (hq : q.size = 14) (hr : r.size = 14) (hv : v.size = 14) : setRow (p ++ q ++ r) 28 v.toList = p ++ q ++ v := by
  apply Array.ext_getElem?
  intro j
  rw [setRow_at _ _ _ _ (by rw [app_size p q r hp hq hr]; omega), app_get p q r hp hq hr, app_get p q v hp hq hv, hv]
  by_cases h1 : j < 14
  · rw [if_pos (by omega), if_pos h1, if_pos h1]
  · by_cases h2 : j < 28
    · rw [if_pos (by omega), if_neg h1, if_pos h2, if_neg h1, if_pos h2]
    · rw [if_neg (by omega), if_neg h1, if_neg h2]
      by_cases h3 : j < 42
      · rw [if_pos (by omega), if_neg h1, if_neg h2]
      · rw [if_neg (by omega), if_neg h1, if_neg h2, Array.getElem?_eq_none (by omega), Array.getElem?_eq_none (by omega)]
def tri (c1 s1 : Nat) (x1 : Int) (f1 : Nat) (c2 s2 : Nat) (x2 : Int) (f2 : Nat) (c3 s3 : Nat) (x3 : Int) (f3 : Nat) : Array Value := #[.int .u8 c1, .int .u64 (limb s1 0), .int .u64 (limb s1 1), .int .u64 (limb s1 2), .int .u64 (limb s1 3), .int .u64 (limb s1 4), .int .u64 (limb s1 5), .int .i64 x1, .int .u64 (limb f1 0), .int .u64 (limb f1 1), .int .u64 (limb f1 2), .int .u64 (limb f1 3), .int .u64 (limb f1 4), .int .u64 (limb f1 5), .int .u8 c2, .int .u64 (limb s2 0), .int .u64 (limb s2 1), .int .u64 (limb s2 2), .int .u64 (limb s2 3), .int .u64 (limb s2 4), .int .u64 (limb s2 5), .int .i64 x2, .int .u64 (limb f2 0), .int .u64 (limb f2 1), .int .u64 (limb f2 2), .int .u64 (limb f2 3), .int .u64 (limb f2 4), .int .u64 (limb f2 5), .int .u8 c3, .int .u64 (limb s3 0), .int .u64 (limb s3 1), .int .u64 (limb s3 2), .int .u64 (limb s3 3), .int .u64 (limb s3 4), .int .u64 (limb s3 5), .int .i64 x3, .int .u64 (limb f3 0), .int .u64 (limb f3 1), .int .u64 (limb f3 2), .int .u64 (limb f3 3), .int .u64 (limb f3 4), .int .u64 (limb f3 5)]
theorem ext_tri (c1 s1 : Nat) (x1 : Int) (f1 : Nat) (c2 s2 : Nat) (x2 : Int) (f2 : Nat) (c3 s3 : Nat) (x3 : Int) (f3 : Nat) : (tri c1 s1 x1 f1 c2 s2 x2 f2 c3 s3 x3 f3).extract 0 (0 + (tri c1 s1 x1 f1 c2 s2 x2 f2 c3 s3 x3 f3).size) = tri c1 s1 x1 f1 c2 s2 x2 f2 c3 s3 x3 f3 := by rw [Nat.zero_add]; exact Array.extract_size
theorem tri_app (c1 s1 : Nat) (x1 : Int) (f1 : Nat) (c2 s2 : Nat) (x2 : Int) (f2 : Nat) (c3 s3 : Nat) (x3 : Int) (f3 : Nat) : tri c1 s1 x1 f1 c2 s2 x2 f2 c3 s3 x3 f3 = parts c1 s1 x1 f1 ++ parts c2 s2 x2 f2 ++ parts c3 s3 x3 f3 := by unfold tri parts; simp only [List.append_toArray, List.cons_append, List.nil_append]
theorem ext_t0 (c1 s1 : Nat) (x1 : Int) (f1 : Nat) (c2 s2 : Nat) (x2 : Int) (f2 : Nat) (c3 s3 : Nat) (x3 : Int) (f3 : Nat) : (tri c1 s1 x1 f1 c2 s2 x2 f2 c3 s3 x3 f3).extract 0 (0 + (parts c1 s1 x1 f1).size) = parts c1 s1 x1 f1 := by rw [tri_app]; exact app3_0 _ _ _
theorem set_t0 (c1 s1 : Nat) (x1 : Int) (f1 : Nat) (c2 s2 : Nat) (x2 : Int) (f2 : Nat) (c3 s3 : Nat) (x3 : Int) (f3 : Nat) (c s : Nat) (x : Int) (f : Nat) : setRow (tri c1 s1 x1 f1 c2 s2 x2 f2 c3 s3 x3 f3) 0 (parts c s x f).toList = tri c s x f c2 s2 x2 f2 c3 s3 x3 f3 := by rw [tri_app, set_app0 _ _ _ _ rfl rfl rfl rfl, tri_app]
theorem ext_t1 (c1 s1 : Nat) (x1 : Int) (f1 : Nat) (c2 s2 : Nat) (x2 : Int) (f2 : Nat) (c3 s3 : Nat) (x3 : Int) (f3 : Nat) : (tri c1 s1 x1 f1 c2 s2 x2 f2 c3 s3 x3 f3).extract 14 (14 + (parts c2 s2 x2 f2).size) = parts c2 s2 x2 f2 := by rw [tri_app]; exact app3_1 _ _ _ rfl
theorem set_t1 (c1 s1 : Nat) (x1 : Int) (f1 : Nat) (c2 s2 : Nat) (x2 : Int) (f2 : Nat) (c3 s3 : Nat) (x3 : Int) (f3 : Nat) (c s : Nat) (x : Int) (f : Nat) : setRow (tri c1 s1 x1 f1 c2 s2 x2 f2 c3 s3 x3 f3) 14 (parts c s x f).toList = tri c1 s1 x1 f1 c s x f c3 s3 x3 f3 := by rw [tri_app, set_app1 _ _ _ _ rfl rfl rfl rfl, tri_app]
theorem ext_t2 (c1 s1 : Nat) (x1 : Int) (f1 : Nat) (c2 s2 : Nat) (x2 : Int) (f2 : Nat) (c3 s3 : Nat) (x3 : Int) (f3 : Nat) : (tri c1 s1 x1 f1 c2 s2 x2 f2 c3 s3 x3 f3).extract 28 (28 + (parts c3 s3 x3 f3).size) = parts c3 s3 x3 f3 := by rw [tri_app]; exact app3_2 _ _ _ rfl
theorem set_t2 (c1 s1 : Nat) (x1 : Int) (f1 : Nat) (c2 s2 : Nat) (x2 : Int) (f2 : Nat) (c3 s3 : Nat) (x3 : Int) (f3 : Nat) (c s : Nat) (x : Int) (f : Nat) : setRow (tri c1 s1 x1 f1 c2 s2 x2 f2 c3 s3 x3 f3) 28 (parts c s x f).toList = tri c1 s1 x1 f1 c2 s2 x2 f2 c s x f := by rw [tri_app, set_app2 _ _ _ _ rfl rfl rfl rfl, tri_app]
theorem tri_zero : tri 0 0 0 0 0 0 0 0 0 0 0 0 = #[.int .u8 0, .int .u64 0, .int .u64 0, .int .u64 0, .int .u64 0, .int .u64 0, .int .u64 0, .int .i64 0, .int .u64 0, .int .u64 0, .int .u64 0, .int .u64 0, .int .u64 0, .int .u64 0, .int .u8 0, .int .u64 0, .int .u64 0, .int .u64 0, .int .u64 0, .int .u64 0, .int .u64 0, .int .i64 0, .int .u64 0, .int .u64 0, .int .u64 0, .int .u64 0, .int .u64 0, .int .u64 0, .int .u8 0, .int .u64 0, .int .u64 0, .int .u64 0, .int .u64 0, .int .u64 0, .int .u64 0, .int .i64 0, .int .u64 0, .int .u64 0, .int .u64 0, .int .u64 0, .int .u64 0, .int .u64 0] := by
  unfold tri; simp only [limb_zero]; rfl
theorem t3_z : (Tryz.prog.info? 101).bind (·.zero) = some (.agg (tri 0 0 0 0 0 0 0 0 0 0 0 0)) := by rw [tri_zero]; kernel_rfl
theorem rQ : IsRow Tryz.prog 101 42 (tri 0 0 0 0 0 0 0 0 0 0 0 0) := ⟨⟨_, Tryz.underlying101, rfl⟩, t3_s, t3_z⟩
theorem set_tri (a1 a2 : Nat) (a3 : Int) (a4 a5 a6 : Nat) (a7 : Int) (a8 a9 a10 : Nat) (a11 : Int) (a12 c1 s1 : Nat) (x1 : Int) (f1 : Nat) (c2 s2 : Nat) (x2 : Int) (f2 : Nat) (c3 s3 : Nat) (x3 : Int) (f3 : Nat) : setRow (tri a1 a2 a3 a4 a5 a6 a7 a8 a9 a10 a11 a12) 0 (tri c1 s1 x1 f1 c2 s2 x2 f2 c3 s3 x3 f3).toList = tri c1 s1 x1 f1 c2 s2 x2 f2 c3 s3 x3 f3 := set_all _ _ rfl
theorem set_pw (a b : Nat) (x : Int) (d c s : Nat) (y : Int) (f : Nat) : setRow (parts a b x d) 0 (parts c s y f).toList = parts c s y f := set_all _ _ rfl
open Go.RowKit Go.Proofs.YtgmhmpflmgfcdaaGreatDoorW.PrintWords Go.Proofs.YtgmhmpflmgfcdaaGreatDoor.PDivQuotients
theorem r8IsInf_nt (f b : Nat) (w : World) (hf : f < 4) (hb : b < 2 ^ (64 * 2)) :
    Calls Tryz.prog 53 #[.int .u8 f, BV b] w fun e w' => e = .returned (.bool (infB (clsN f b))) ∧ Below w.heap.size w w' := by
  by_cases hc : clsN f b = 0
  · exact r8IsInf_t f b _ w hc (fun w => r8Class_any f b w hf hb)
  · exact r8IsInf_f f b _ w hc (fun w => r8Class_any f b w hf hb)
open Go.RowKit Go.Proofs.YtgmhmpflmgfcdaaGreatDoorW.PrintWords Go.Proofs.YtgmhmpflmgfcdaaGreatDoor.PDivQuotients
theorem r19cLeast_0 (w : World) :
    Calls Tryz.prog 54 #[.int .u8 0] w fun e w' => e = .returned (.int .u64 18446744071562067968) ∧ Below w.heap.size w w' := by
  have H := Own.start w
  go_enter Tryz.func54, Tryz.ntmps54
  exact walk1
theorem r19cLeast_1 (w : World) :
    Calls Tryz.prog 54 #[.int .u8 1] w fun e w' => e = .returned (.int .u64 0) ∧ Below w.heap.size w w' := by
  have H := Own.start w
  go_enter Tryz.func54, Tryz.ntmps54
  exact walk1
theorem r19cLeast_2 (w : World) :
    Calls Tryz.prog 54 #[.int .u8 2] w fun e w' => e = .returned (.int .u64 9223372036854775808) ∧ Below w.heap.size w w' := by
  have H := Own.start w
  go_enter Tryz.func54, Tryz.ntmps54
  exact walk1
theorem r19cLeast_3 (w : World) :
    Calls Tryz.prog 54 #[.int .u8 3] w fun e w' => e = .returned (.int .u64 0) ∧ Below w.heap.size w w' := by
  have H := Own.start w
  go_enter Tryz.func54, Tryz.ntmps54
  exact walk1
theorem r19cLeast_any (k : Nat) (w : World) (hk : k < 4) : Calls Tryz.prog 54 #[.int .u8 k] w fun e w' => e = .returned (.int .u64 (toldN k true (lowK k) : Nat)) ∧ Below w.heap.size w w' := by
  obtain rfl | rfl | rfl | rfl : k = 0 ∨ k = 1 ∨ k = 2 ∨ k = 3 := by omega
  · have h := r19cLeast_0 w
    rw [show toldN 0 true (lowK 0) = 18446744071562067968 by decide +kernel]; exact h
  · have h := r19cLeast_1 w
    rw [show toldN 1 true (lowK 1) = 0 by decide +kernel]; exact h
  · have h := r19cLeast_2 w
    rw [show toldN 2 true (lowK 2) = 9223372036854775808 by decide +kernel]; exact h
  · have h := r19cLeast_3 w
    rw [show toldN 3 true (lowK 3) = 0 by decide +kernel]; exact h
theorem r19cGreatest_0 (w : World) :
    Calls Tryz.prog 52 #[.int .u8 0] w fun e w' => e = .returned (.int .u64 2147483647) ∧ Below w.heap.size w w' := by
  have H := Own.start w
  go_enter Tryz.func52, Tryz.ntmps52
  exact walk1
theorem r19cGreatest_1 (w : World) :
    Calls Tryz.prog 52 #[.int .u8 1] w fun e w' => e = .returned (.int .u64 18446744073709551615) ∧ Below w.heap.size w w' := by
  have H := Own.start w
  go_enter Tryz.func52, Tryz.ntmps52
  exact walk1
theorem r19cGreatest_2 (w : World) :
    Calls Tryz.prog 52 #[.int .u8 2] w fun e w' => e = .returned (.int .u64 9223372036854775807) ∧ Below w.heap.size w w' := by
  have H := Own.start w
  go_enter Tryz.func52, Tryz.ntmps52
  exact walk1
theorem r19cGreatest_3 (w : World) :
    Calls Tryz.prog 52 #[.int .u8 3] w fun e w' => e = .returned (.int .u64 18446744073709551615) ∧ Below w.heap.size w w' := by
  have H := Own.start w
  go_enter Tryz.func52, Tryz.ntmps52
  exact walk1
theorem r19cGreatest_any (k : Nat) (w : World) (hk : k < 4) : Calls Tryz.prog 52 #[.int .u8 k] w fun e w' => e = .returned (.int .u64 (toldN k false (highK k) : Nat)) ∧ Below w.heap.size w w' := by
  obtain rfl | rfl | rfl | rfl : k = 0 ∨ k = 1 ∨ k = 2 ∨ k = 3 := by omega
  · have h := r19cGreatest_0 w
    rw [show toldN 0 false (highK 0) = 2147483647 by decide +kernel]; exact h
  · have h := r19cGreatest_1 w
    rw [show toldN 1 false (highK 1) = 18446744073709551615 by decide +kernel]; exact h
  · have h := r19cGreatest_2 w
    rw [show toldN 2 false (highK 2) = 9223372036854775807 by decide +kernel]; exact h
  · have h := r19cGreatest_3 w
    rw [show toldN 3 false (highK 3) = 18446744073709551615 by decide +kernel]; exact h
theorem r19cends_0 (w : World) :
    Calls Tryz.prog 56 #[.int .u8 0] w fun e w' => e = .returned (.tuple #[.int .u64 2147483648, .int .u64 2147483647]) ∧ Below w.heap.size w w' := by
  have H := Own.start w
  go_enter Tryz.func56, Tryz.ntmps56
  exact walk1
theorem r19cends_1 (w : World) :
    Calls Tryz.prog 56 #[.int .u8 1] w fun e w' => e = .returned (.tuple #[.int .u64 0, .int .u64 4294967295]) ∧ Below w.heap.size w w' := by
  have H := Own.start w
  go_enter Tryz.func56, Tryz.ntmps56
  exact walk1
theorem r19cends_2 (w : World) :
    Calls Tryz.prog 56 #[.int .u8 2] w fun e w' => e = .returned (.tuple #[.int .u64 9223372036854775808, .int .u64 9223372036854775807]) ∧ Below w.heap.size w w' := by
  have H := Own.start w
  go_enter Tryz.func56, Tryz.ntmps56
  exact walk1
theorem r19cends_3 (w : World) :
    Calls Tryz.prog 56 #[.int .u8 3] w fun e w' => e = .returned (.tuple #[.int .u64 0, .int .u64 18446744073709551615]) ∧ Below w.heap.size w w' := by
  have H := Own.start w
  go_enter Tryz.func56, Tryz.ntmps56
  exact walk1
theorem r19cends_any (k : Nat) (w : World) (hk : k < 4) : Calls Tryz.prog 56 #[.int .u8 k] w fun e w' => e = .returned (.tuple #[.int .u64 (lowK k : Nat), .int .u64 (highK k : Nat)]) ∧ Below w.heap.size w w' := by
  obtain rfl | rfl | rfl | rfl : k = 0 ∨ k = 1 ∨ k = 2 ∨ k = 3 := by omega
  · exact r19cends_0 w
  · exact r19cends_1 w
  · exact r19cends_2 w
  · exact r19cends_3 w
theorem r19C_k (k f m a n : Nat) (x : Bool) (lo hi : Nat) (c v : Int) (s t : ByteArray) (w : World) (hk : 3 < (k : Int))  :
    Calls Tryz.prog 13 #[.int .u8 k, .int .u8 f, .int .u8 m, BV a] w fun e w' => e = .returned (.tuple #[.int .u64 0, .int .u8 0, .int .i64 2]) ∧ Below w.heap.size w w' := by
  have H := Own.start w
  go_enter Tryz.func13, Tryz.ntmps13
  exact walk1
theorem r19C_t (k f m a n : Nat) (x : Bool) (lo hi : Nat) (c v : Int) (s t : ByteArray) (w : World) (hk : (k : Int) ≤ 3) (hk2 : decide (3 < (k : Int)) = false) (cT : CK_ 48 #[.int .u8 f, BV a] (.bool false))  :
    Calls Tryz.prog 13 #[.int .u8 k, .int .u8 f, .int .u8 m, BV a] w fun e w' => e = .returned (.tuple #[.int .u64 0, .int .u8 0, .int .i64 2]) ∧ Below w.heap.size w w' := by
  have H := Own.start w
  go_enter Tryz.func13, Tryz.ntmps13
  exact walk1
theorem r19C_m (k f m a n : Nat) (x : Bool) (lo hi : Nat) (c v : Int) (s t : ByteArray) (w : World) (hk : (k : Int) ≤ 3) (hk2 : decide (3 < (k : Int)) = false) (cT : CK_ 48 #[.int .u8 f, BV a] (.bool true)) (cM : CK_ 49 #[.int .u8 m] (.bool false))  :
    Calls Tryz.prog 13 #[.int .u8 k, .int .u8 f, .int .u8 m, BV a] w fun e w' => e = .returned (.tuple #[.int .u64 0, .int .u8 0, .int .i64 2]) ∧ Below w.heap.size w w' := by
  have H := Own.start w
  go_enter Tryz.func13, Tryz.ntmps13
  exact walk1
theorem r19C_n (k f m a n : Nat) (x : Bool) (lo hi : Nat) (c v : Int) (s t : ByteArray) (w : World) (sg : Bool) (hk : (k : Int) ≤ 3) (hk2 : decide (3 < (k : Int)) = false) (cT : CK_ 48 #[.int .u8 f, BV a] (.bool true)) (cM : CK_ 49 #[.int .u8 m] (.bool true)) (cS : CK_ 50 #[.int .u8 f, BV a] (.bool sg)) (cN : CK_ 51 #[.int .u8 f, BV a] (.bool true)) (cG : CK_ 52 #[.int .u8 k] (.int .u64 v))  :
    Calls Tryz.prog 13 #[.int .u8 k, .int .u8 f, .int .u8 m, BV a] w fun e w' => e = .returned (.tuple #[.int .u64 v, .int .u8 16, .int .i64 0]) ∧ Below w.heap.size w w' := by
  have H := Own.start w
  go_enter Tryz.func13, Tryz.ntmps13
  exact walk1
theorem r19C_it (k f m a n : Nat) (x : Bool) (lo hi : Nat) (c v : Int) (s t : ByteArray) (w : World) (hk : (k : Int) ≤ 3) (hk2 : decide (3 < (k : Int)) = false) (cT : CK_ 48 #[.int .u8 f, BV a] (.bool true)) (cM : CK_ 49 #[.int .u8 m] (.bool true)) (cS : CK_ 50 #[.int .u8 f, BV a] (.bool true)) (cN : CK_ 51 #[.int .u8 f, BV a] (.bool false)) (cI : CK_ 53 #[.int .u8 f, BV a] (.bool true)) (cL : CK_ 54 #[.int .u8 k] (.int .u64 v))  :
    Calls Tryz.prog 13 #[.int .u8 k, .int .u8 f, .int .u8 m, BV a] w fun e w' => e = .returned (.tuple #[.int .u64 v, .int .u8 16, .int .i64 0]) ∧ Below w.heap.size w w' := by
  have H := Own.start w
  go_enter Tryz.func13, Tryz.ntmps13
  exact walk1
theorem r19C_if (k f m a n : Nat) (x : Bool) (lo hi : Nat) (c v : Int) (s t : ByteArray) (w : World) (hk : (k : Int) ≤ 3) (hk2 : decide (3 < (k : Int)) = false) (cT : CK_ 48 #[.int .u8 f, BV a] (.bool true)) (cM : CK_ 49 #[.int .u8 m] (.bool true)) (cS : CK_ 50 #[.int .u8 f, BV a] (.bool false)) (cN : CK_ 51 #[.int .u8 f, BV a] (.bool false)) (cI : CK_ 53 #[.int .u8 f, BV a] (.bool true)) (cG : CK_ 52 #[.int .u8 k] (.int .u64 v))  :
    Calls Tryz.prog 13 #[.int .u8 k, .int .u8 f, .int .u8 m, BV a] w fun e w' => e = .returned (.tuple #[.int .u64 v, .int .u8 16, .int .i64 0]) ∧ Below w.heap.size w w' := by
  have H := Own.start w
  go_enter Tryz.func13, Tryz.ntmps13
  exact walk1
theorem r19C_ot (k f m a n : Nat) (x : Bool) (lo hi : Nat) (c v : Int) (s t : ByteArray) (w : World) (hk : (k : Int) ≤ 3) (hk2 : decide (3 < (k : Int)) = false) (cT : CK_ 48 #[.int .u8 f, BV a] (.bool true)) (cM : CK_ 49 #[.int .u8 m] (.bool true)) (cS : CK_ 50 #[.int .u8 f, BV a] (.bool true)) (cN : CK_ 51 #[.int .u8 f, BV a] (.bool false)) (cI : CK_ 53 #[.int .u8 f, BV a] (.bool false)) (cR : CK_ 55 #[.int .u8 f, .int .u8 m, BV a] (.tuple #[.string s, .bool x])) (cE : CK_ 56 #[.int .u8 k] (.tuple #[.int .u64 (lo : Nat), .int .u64 (hi : Nat)])) (cO : CK_ 58 #[.int .u64 (lo : Nat)] (.string t)) (cC : CK_ 57 #[.string s, .string t] (.int .i64 c)) (q : decide (0 < c) = true) (cL : CK_ 54 #[.int .u8 k] (.int .u64 v))  :
    Calls Tryz.prog 13 #[.int .u8 k, .int .u8 f, .int .u8 m, BV a] w fun e w' => e = .returned (.tuple #[.int .u64 v, .int .u8 16, .int .i64 0]) ∧ Below w.heap.size w w' := by
  have H := Own.start w
  go_enter Tryz.func13, Tryz.ntmps13
  exact walk1
theorem r19C_vt0t (f m a n : Nat) (x : Bool) (lo hi : Nat) (c v : Int) (s t : ByteArray) (w : World) (cT : CK_ 48 #[.int .u8 f, BV a] (.bool true)) (cM : CK_ 49 #[.int .u8 m] (.bool true)) (cS : CK_ 50 #[.int .u8 f, BV a] (.bool true)) (cN : CK_ 51 #[.int .u8 f, BV a] (.bool false)) (cI : CK_ 53 #[.int .u8 f, BV a] (.bool false)) (cR : CK_ 55 #[.int .u8 f, .int .u8 m, BV a] (.tuple #[.string s, .bool true])) (cE : CK_ 56 #[.int .u8 0] (.tuple #[.int .u64 (lo : Nat), .int .u64 (hi : Nat)])) (cO : CK_ 58 #[.int .u64 (lo : Nat)] (.string t)) (cC : CK_ 57 #[.string s, .string t] (.int .i64 c)) (q : decide (0 < c) = false) (cW : CK_ 59 #[.string s] (.tuple #[W n, .bool true])) (cX : CK_ 60 #[.int .u64 (IntKind.u64.wrap (-limb n 0)), .int .i64 32] (.int .u64 v))  :
    Calls Tryz.prog 13 #[.int .u8 0, .int .u8 f, .int .u8 m, BV a] w fun e w' => e = .returned (.tuple #[.int .u64 v, .int .u8 0, .int .i64 0]) ∧ Below w.heap.size w w' := by
  have H := Own.start w
  go_enter Tryz.func13, Tryz.ntmps13
  exact walk1
theorem r19C_vt0f (f m a n : Nat) (x : Bool) (lo hi : Nat) (c v : Int) (s t : ByteArray) (w : World) (cT : CK_ 48 #[.int .u8 f, BV a] (.bool true)) (cM : CK_ 49 #[.int .u8 m] (.bool true)) (cS : CK_ 50 #[.int .u8 f, BV a] (.bool true)) (cN : CK_ 51 #[.int .u8 f, BV a] (.bool false)) (cI : CK_ 53 #[.int .u8 f, BV a] (.bool false)) (cR : CK_ 55 #[.int .u8 f, .int .u8 m, BV a] (.tuple #[.string s, .bool false])) (cE : CK_ 56 #[.int .u8 0] (.tuple #[.int .u64 (lo : Nat), .int .u64 (hi : Nat)])) (cO : CK_ 58 #[.int .u64 (lo : Nat)] (.string t)) (cC : CK_ 57 #[.string s, .string t] (.int .i64 c)) (q : decide (0 < c) = false) (cW : CK_ 59 #[.string s] (.tuple #[W n, .bool true])) (cX : CK_ 60 #[.int .u64 (IntKind.u64.wrap (-limb n 0)), .int .i64 32] (.int .u64 v))  :
    Calls Tryz.prog 13 #[.int .u8 0, .int .u8 f, .int .u8 m, BV a] w fun e w' => e = .returned (.tuple #[.int .u64 v, .int .u8 1, .int .i64 0]) ∧ Below w.heap.size w w' := by
  have H := Own.start w
  go_enter Tryz.func13, Tryz.ntmps13
  exact walk1
theorem r19C_vt1t (f m a n : Nat) (x : Bool) (lo hi : Nat) (c v : Int) (s t : ByteArray) (w : World) (cT : CK_ 48 #[.int .u8 f, BV a] (.bool true)) (cM : CK_ 49 #[.int .u8 m] (.bool true)) (cS : CK_ 50 #[.int .u8 f, BV a] (.bool true)) (cN : CK_ 51 #[.int .u8 f, BV a] (.bool false)) (cI : CK_ 53 #[.int .u8 f, BV a] (.bool false)) (cR : CK_ 55 #[.int .u8 f, .int .u8 m, BV a] (.tuple #[.string s, .bool true])) (cE : CK_ 56 #[.int .u8 1] (.tuple #[.int .u64 (lo : Nat), .int .u64 (hi : Nat)])) (cO : CK_ 58 #[.int .u64 (lo : Nat)] (.string t)) (cC : CK_ 57 #[.string s, .string t] (.int .i64 c)) (q : decide (0 < c) = false) (cW : CK_ 59 #[.string s] (.tuple #[W n, .bool true])) (cX : CK_ 60 #[.int .u64 (IntKind.u64.wrap (-limb n 0)), .int .i64 32] (.int .u64 v))  :
    Calls Tryz.prog 13 #[.int .u8 1, .int .u8 f, .int .u8 m, BV a] w fun e w' => e = .returned (.tuple #[.int .u64 v, .int .u8 0, .int .i64 0]) ∧ Below w.heap.size w w' := by
  have H := Own.start w
  go_enter Tryz.func13, Tryz.ntmps13
  exact walk1
theorem r19C_vt1f (f m a n : Nat) (x : Bool) (lo hi : Nat) (c v : Int) (s t : ByteArray) (w : World) (cT : CK_ 48 #[.int .u8 f, BV a] (.bool true)) (cM : CK_ 49 #[.int .u8 m] (.bool true)) (cS : CK_ 50 #[.int .u8 f, BV a] (.bool true)) (cN : CK_ 51 #[.int .u8 f, BV a] (.bool false)) (cI : CK_ 53 #[.int .u8 f, BV a] (.bool false)) (cR : CK_ 55 #[.int .u8 f, .int .u8 m, BV a] (.tuple #[.string s, .bool false])) (cE : CK_ 56 #[.int .u8 1] (.tuple #[.int .u64 (lo : Nat), .int .u64 (hi : Nat)])) (cO : CK_ 58 #[.int .u64 (lo : Nat)] (.string t)) (cC : CK_ 57 #[.string s, .string t] (.int .i64 c)) (q : decide (0 < c) = false) (cW : CK_ 59 #[.string s] (.tuple #[W n, .bool true])) (cX : CK_ 60 #[.int .u64 (IntKind.u64.wrap (-limb n 0)), .int .i64 32] (.int .u64 v))  :
    Calls Tryz.prog 13 #[.int .u8 1, .int .u8 f, .int .u8 m, BV a] w fun e w' => e = .returned (.tuple #[.int .u64 v, .int .u8 1, .int .i64 0]) ∧ Below w.heap.size w w' := by
  have H := Own.start w
  go_enter Tryz.func13, Tryz.ntmps13
  exact walk1
theorem r19C_vtht (k f m a n : Nat) (x : Bool) (lo hi : Nat) (c v : Int) (s t : ByteArray) (w : World) (hk : (k : Int) ≤ 3) (hk2 : decide (3 < (k : Int)) = false) (cT : CK_ 48 #[.int .u8 f, BV a] (.bool true)) (cM : CK_ 49 #[.int .u8 m] (.bool true)) (cS : CK_ 50 #[.int .u8 f, BV a] (.bool true)) (cN : CK_ 51 #[.int .u8 f, BV a] (.bool false)) (cI : CK_ 53 #[.int .u8 f, BV a] (.bool false)) (cR : CK_ 55 #[.int .u8 f, .int .u8 m, BV a] (.tuple #[.string s, .bool true])) (cE : CK_ 56 #[.int .u8 k] (.tuple #[.int .u64 (lo : Nat), .int .u64 (hi : Nat)])) (cO : CK_ 58 #[.int .u64 (lo : Nat)] (.string t)) (cC : CK_ 57 #[.string s, .string t] (.int .i64 c)) (q : decide (0 < c) = false) (cW : CK_ 59 #[.string s] (.tuple #[W n, .bool true])) (k0 : ((k : Int) == 0) = false) (k1 : ((k : Int) == 1) = false)  :
    Calls Tryz.prog 13 #[.int .u8 k, .int .u8 f, .int .u8 m, BV a] w fun e w' => e = .returned (.tuple #[.int .u64 (IntKind.u64.wrap (-limb n 0)), .int .u8 0, .int .i64 0]) ∧ Below w.heap.size w w' := by
  have H := Own.start w
  go_enter Tryz.func13, Tryz.ntmps13
  exact walk1
theorem r19C_vthf (k f m a n : Nat) (x : Bool) (lo hi : Nat) (c v : Int) (s t : ByteArray) (w : World) (hk : (k : Int) ≤ 3) (hk2 : decide (3 < (k : Int)) = false) (cT : CK_ 48 #[.int .u8 f, BV a] (.bool true)) (cM : CK_ 49 #[.int .u8 m] (.bool true)) (cS : CK_ 50 #[.int .u8 f, BV a] (.bool true)) (cN : CK_ 51 #[.int .u8 f, BV a] (.bool false)) (cI : CK_ 53 #[.int .u8 f, BV a] (.bool false)) (cR : CK_ 55 #[.int .u8 f, .int .u8 m, BV a] (.tuple #[.string s, .bool false])) (cE : CK_ 56 #[.int .u8 k] (.tuple #[.int .u64 (lo : Nat), .int .u64 (hi : Nat)])) (cO : CK_ 58 #[.int .u64 (lo : Nat)] (.string t)) (cC : CK_ 57 #[.string s, .string t] (.int .i64 c)) (q : decide (0 < c) = false) (cW : CK_ 59 #[.string s] (.tuple #[W n, .bool true])) (k0 : ((k : Int) == 0) = false) (k1 : ((k : Int) == 1) = false)  :
    Calls Tryz.prog 13 #[.int .u8 k, .int .u8 f, .int .u8 m, BV a] w fun e w' => e = .returned (.tuple #[.int .u64 (IntKind.u64.wrap (-limb n 0)), .int .u8 1, .int .i64 0]) ∧ Below w.heap.size w w' := by
  have H := Own.start w
  go_enter Tryz.func13, Tryz.ntmps13
  exact walk1
theorem r19C_of (k f m a n : Nat) (x : Bool) (lo hi : Nat) (c v : Int) (s t : ByteArray) (w : World) (hk : (k : Int) ≤ 3) (hk2 : decide (3 < (k : Int)) = false) (cT : CK_ 48 #[.int .u8 f, BV a] (.bool true)) (cM : CK_ 49 #[.int .u8 m] (.bool true)) (cS : CK_ 50 #[.int .u8 f, BV a] (.bool false)) (cN : CK_ 51 #[.int .u8 f, BV a] (.bool false)) (cI : CK_ 53 #[.int .u8 f, BV a] (.bool false)) (cR : CK_ 55 #[.int .u8 f, .int .u8 m, BV a] (.tuple #[.string s, .bool x])) (cE : CK_ 56 #[.int .u8 k] (.tuple #[.int .u64 (lo : Nat), .int .u64 (hi : Nat)])) (cO : CK_ 58 #[.int .u64 (hi : Nat)] (.string t)) (cC : CK_ 57 #[.string s, .string t] (.int .i64 c)) (q : decide (0 < c) = true) (cG : CK_ 52 #[.int .u8 k] (.int .u64 v))  :
    Calls Tryz.prog 13 #[.int .u8 k, .int .u8 f, .int .u8 m, BV a] w fun e w' => e = .returned (.tuple #[.int .u64 v, .int .u8 16, .int .i64 0]) ∧ Below w.heap.size w w' := by
  have H := Own.start w
  go_enter Tryz.func13, Tryz.ntmps13
  exact walk1
theorem r19C_vf0t (f m a n : Nat) (x : Bool) (lo hi : Nat) (c v : Int) (s t : ByteArray) (w : World) (cT : CK_ 48 #[.int .u8 f, BV a] (.bool true)) (cM : CK_ 49 #[.int .u8 m] (.bool true)) (cS : CK_ 50 #[.int .u8 f, BV a] (.bool false)) (cN : CK_ 51 #[.int .u8 f, BV a] (.bool false)) (cI : CK_ 53 #[.int .u8 f, BV a] (.bool false)) (cR : CK_ 55 #[.int .u8 f, .int .u8 m, BV a] (.tuple #[.string s, .bool true])) (cE : CK_ 56 #[.int .u8 0] (.tuple #[.int .u64 (lo : Nat), .int .u64 (hi : Nat)])) (cO : CK_ 58 #[.int .u64 (hi : Nat)] (.string t)) (cC : CK_ 57 #[.string s, .string t] (.int .i64 c)) (q : decide (0 < c) = false) (cW : CK_ 59 #[.string s] (.tuple #[W n, .bool true])) (cX : CK_ 60 #[.int .u64 (limb n 0), .int .i64 32] (.int .u64 v))  :
    Calls Tryz.prog 13 #[.int .u8 0, .int .u8 f, .int .u8 m, BV a] w fun e w' => e = .returned (.tuple #[.int .u64 v, .int .u8 0, .int .i64 0]) ∧ Below w.heap.size w w' := by
  have H := Own.start w
  go_enter Tryz.func13, Tryz.ntmps13
  exact walk1
theorem r19C_vf0f (f m a n : Nat) (x : Bool) (lo hi : Nat) (c v : Int) (s t : ByteArray) (w : World) (cT : CK_ 48 #[.int .u8 f, BV a] (.bool true)) (cM : CK_ 49 #[.int .u8 m] (.bool true)) (cS : CK_ 50 #[.int .u8 f, BV a] (.bool false)) (cN : CK_ 51 #[.int .u8 f, BV a] (.bool false)) (cI : CK_ 53 #[.int .u8 f, BV a] (.bool false)) (cR : CK_ 55 #[.int .u8 f, .int .u8 m, BV a] (.tuple #[.string s, .bool false])) (cE : CK_ 56 #[.int .u8 0] (.tuple #[.int .u64 (lo : Nat), .int .u64 (hi : Nat)])) (cO : CK_ 58 #[.int .u64 (hi : Nat)] (.string t)) (cC : CK_ 57 #[.string s, .string t] (.int .i64 c)) (q : decide (0 < c) = false) (cW : CK_ 59 #[.string s] (.tuple #[W n, .bool true])) (cX : CK_ 60 #[.int .u64 (limb n 0), .int .i64 32] (.int .u64 v))  :
    Calls Tryz.prog 13 #[.int .u8 0, .int .u8 f, .int .u8 m, BV a] w fun e w' => e = .returned (.tuple #[.int .u64 v, .int .u8 1, .int .i64 0]) ∧ Below w.heap.size w w' := by
  have H := Own.start w
  go_enter Tryz.func13, Tryz.ntmps13
  exact walk1
theorem r19C_vf1t (f m a n : Nat) (x : Bool) (lo hi : Nat) (c v : Int) (s t : ByteArray) (w : World) (cT : CK_ 48 #[.int .u8 f, BV a] (.bool true)) (cM : CK_ 49 #[.int .u8 m] (.bool true)) (cS : CK_ 50 #[.int .u8 f, BV a] (.bool false)) (cN : CK_ 51 #[.int .u8 f, BV a] (.bool false)) (cI : CK_ 53 #[.int .u8 f, BV a] (.bool false)) (cR : CK_ 55 #[.int .u8 f, .int .u8 m, BV a] (.tuple #[.string s, .bool true])) (cE : CK_ 56 #[.int .u8 1] (.tuple #[.int .u64 (lo : Nat), .int .u64 (hi : Nat)])) (cO : CK_ 58 #[.int .u64 (hi : Nat)] (.string t)) (cC : CK_ 57 #[.string s, .string t] (.int .i64 c)) (q : decide (0 < c) = false) (cW : CK_ 59 #[.string s] (.tuple #[W n, .bool true])) (cX : CK_ 60 #[.int .u64 (limb n 0), .int .i64 32] (.int .u64 v))  :
    Calls Tryz.prog 13 #[.int .u8 1, .int .u8 f, .int .u8 m, BV a] w fun e w' => e = .returned (.tuple #[.int .u64 v, .int .u8 0, .int .i64 0]) ∧ Below w.heap.size w w' := by
  have H := Own.start w
  go_enter Tryz.func13, Tryz.ntmps13
  exact walk1
theorem r19C_vf1f (f m a n : Nat) (x : Bool) (lo hi : Nat) (c v : Int) (s t : ByteArray) (w : World) (cT : CK_ 48 #[.int .u8 f, BV a] (.bool true)) (cM : CK_ 49 #[.int .u8 m] (.bool true)) (cS : CK_ 50 #[.int .u8 f, BV a] (.bool false)) (cN : CK_ 51 #[.int .u8 f, BV a] (.bool false)) (cI : CK_ 53 #[.int .u8 f, BV a] (.bool false)) (cR : CK_ 55 #[.int .u8 f, .int .u8 m, BV a] (.tuple #[.string s, .bool false])) (cE : CK_ 56 #[.int .u8 1] (.tuple #[.int .u64 (lo : Nat), .int .u64 (hi : Nat)])) (cO : CK_ 58 #[.int .u64 (hi : Nat)] (.string t)) (cC : CK_ 57 #[.string s, .string t] (.int .i64 c)) (q : decide (0 < c) = false) (cW : CK_ 59 #[.string s] (.tuple #[W n, .bool true])) (cX : CK_ 60 #[.int .u64 (limb n 0), .int .i64 32] (.int .u64 v))  :
    Calls Tryz.prog 13 #[.int .u8 1, .int .u8 f, .int .u8 m, BV a] w fun e w' => e = .returned (.tuple #[.int .u64 v, .int .u8 1, .int .i64 0]) ∧ Below w.heap.size w w' := by
  have H := Own.start w
  go_enter Tryz.func13, Tryz.ntmps13
  exact walk1
theorem r19C_vfht (k f m a n : Nat) (x : Bool) (lo hi : Nat) (c v : Int) (s t : ByteArray) (w : World) (hk : (k : Int) ≤ 3) (hk2 : decide (3 < (k : Int)) = false) (cT : CK_ 48 #[.int .u8 f, BV a] (.bool true)) (cM : CK_ 49 #[.int .u8 m] (.bool true)) (cS : CK_ 50 #[.int .u8 f, BV a] (.bool false)) (cN : CK_ 51 #[.int .u8 f, BV a] (.bool false)) (cI : CK_ 53 #[.int .u8 f, BV a] (.bool false)) (cR : CK_ 55 #[.int .u8 f, .int .u8 m, BV a] (.tuple #[.string s, .bool true])) (cE : CK_ 56 #[.int .u8 k] (.tuple #[.int .u64 (lo : Nat), .int .u64 (hi : Nat)])) (cO : CK_ 58 #[.int .u64 (hi : Nat)] (.string t)) (cC : CK_ 57 #[.string s, .string t] (.int .i64 c)) (q : decide (0 < c) = false) (cW : CK_ 59 #[.string s] (.tuple #[W n, .bool true])) (k0 : ((k : Int) == 0) = false) (k1 : ((k : Int) == 1) = false)  :
    Calls Tryz.prog 13 #[.int .u8 k, .int .u8 f, .int .u8 m, BV a] w fun e w' => e = .returned (.tuple #[.int .u64 (limb n 0), .int .u8 0, .int .i64 0]) ∧ Below w.heap.size w w' := by
  have H := Own.start w
  go_enter Tryz.func13, Tryz.ntmps13
  exact walk1
theorem r19C_vfhf (k f m a n : Nat) (x : Bool) (lo hi : Nat) (c v : Int) (s t : ByteArray) (w : World) (hk : (k : Int) ≤ 3) (hk2 : decide (3 < (k : Int)) = false) (cT : CK_ 48 #[.int .u8 f, BV a] (.bool true)) (cM : CK_ 49 #[.int .u8 m] (.bool true)) (cS : CK_ 50 #[.int .u8 f, BV a] (.bool false)) (cN : CK_ 51 #[.int .u8 f, BV a] (.bool false)) (cI : CK_ 53 #[.int .u8 f, BV a] (.bool false)) (cR : CK_ 55 #[.int .u8 f, .int .u8 m, BV a] (.tuple #[.string s, .bool false])) (cE : CK_ 56 #[.int .u8 k] (.tuple #[.int .u64 (lo : Nat), .int .u64 (hi : Nat)])) (cO : CK_ 58 #[.int .u64 (hi : Nat)] (.string t)) (cC : CK_ 57 #[.string s, .string t] (.int .i64 c)) (q : decide (0 < c) = false) (cW : CK_ 59 #[.string s] (.tuple #[W n, .bool true])) (k0 : ((k : Int) == 0) = false) (k1 : ((k : Int) == 1) = false)  :
    Calls Tryz.prog 13 #[.int .u8 k, .int .u8 f, .int .u8 m, BV a] w fun e w' => e = .returned (.tuple #[.int .u64 (limb n 0), .int .u8 1, .int .i64 0]) ∧ Below w.heap.size w w' := by
  have H := Own.start w
  go_enter Tryz.func13, Tryz.ntmps13
  exact walk1
open Go.RowKit Go.Proofs.YtgmhmpflmgfcdaaGreatDoorW.PrintWords Go.Proofs.YtgmhmpflmgfcdaaGreatDoor.PDivQuotients
theorem r5Of_any (x : Nat) (w : World) (hx : x < 18446744073709551616) : Calls Tryz.prog 58 #[.int .u64 (x : Nat)] w fun e w' => e = .returned (.string (strB x)) ∧ Below w.heap.size w w' :=
  (abacusref05_Of.calls 28 (x : Int) (strB x) w (of_strB x 28 hx (Nat.le_refl _)))
theorem cmp_up (a b : Nat) : decide (0 < cmpN a b) = decide (b < a) := by
  rw [decide_eq_decide]
  unfold cmpN
  split
  · constructor <;> intro h <;> omega
  · split
    · constructor <;> intro h <;> omega
    · constructor <;> intro h <;> omega
theorem end_lt (k : Nat) : lowK k < 18446744073709551616 ∧ highK k < 18446744073709551616 := by
  match k with
  | 0 => decide
  | 1 => decide
  | 2 => decide
  | k + 3 => exact ⟨by show (0 : Nat) < _; decide, by show (18446744073709551615 : Nat) < _; decide⟩
theorem limb0_small (n : Nat) (h : n < 18446744073709551616) : limb n 0 = ((n : Nat) : Int) := by unfold limb limbN; rw [Nat.mul_zero, Nat.pow_zero, Nat.div_one, Nat.mod_eq_of_lt h]
theorem wrap_negN (n : Nat) (h : n < 18446744073709551616) : IntKind.u64.wrap (-limb n 0) = ((neg64 true n : Nat) : Int) := by
  rw [limb0_small n h]
  unfold neg64
  show (-(n : Int)) % 18446744073709551616 = (((18446744073709551616 - n) % 18446744073709551616 : Nat) : Int)
  omega
theorem neg64_lt (g : Bool) (n : Nat) (h : n < 18446744073709551616) : neg64 g n < 18446744073709551616 := by
  unfold neg64; cases g
  · exact h
  · exact Nat.mod_lt _ (by decide)
theorem nb_small (n : Nat) (h : n < 18446744073709551616) : nb n ≤ 48 := by
  have h1 : lenN n ≤ 64 := (lenN_le n 64).2 h
  unfold nb; omega
def toldR (k : Nat) (g : Bool) (n : Nat) (x : Bool) : Nat × Nat :=
  if (cond g (lowK k) (highK k)) < n then (toldN k g (cond g (lowK k) (highK k)), 16) else (toldN k g n, cond x 0 1)
theorem told_zero (k : Nat) : toldN k true 0 = toldN k false 0 := by
  unfold toldN; rw [show neg64 true 0 = neg64 false 0 by decide]
theorem conv_fin (k f m a : Nat) (hk : k < 4) (hfm : (fitsB f a && decide (m < 5)) = true) (h7 : noFin (clsN f a) = false) :
    convR k f m a = toldR k (belowN4 (clsN f a)) (wholeG f m a).1 (wholeG f m a).2 := by
  have hE : wholeE f m a = cond (decide (top6 ≤ (wholeG f m a).1)) 4 0 := by unfold wholeE; rw [hfm, h7]; rfl
  have hl := end_lt k
  have ht : 18446744073709551616 < top6 := lt_113_6 _ 65 (by decide) (by decide)
  unfold convR toldR
  by_cases h6 : top6 ≤ (wholeG f m a).1
  · rw [hE, decide_eq_true h6, if_neg (by show ¬ (4 : Int) = 0; decide)]
    cases hb : belowN4 (clsN f a)
    · rw [if_pos (by show highK k < _; omega)]; rfl
    · rw [if_pos (by show lowK k < _; omega)]; rfl
  · have h0 : wholeE f m a = 0 := by rw [hE, decide_eq_false h6]; rfl
    rw [if_pos h0]
    have hN : wholeNeg f m a = (belowN4 (clsN f a) && !decide ((wholeG f m a).1 = 0)) := by unfold wholeNeg; rw [decide_eq_true h0]; rfl
    have hV : wholeN f m a = (wholeG f m a).1 := by unfold wholeN; rw [decide_eq_true h0]; rfl
    have hX : wholeX f m a = (wholeG f m a).2 := by unfold wholeX; rw [decide_eq_true h0]; rfl
    rw [hN, hV, hX]
    generalize (wholeG f m a).1 = n at *
    generalize (wholeG f m a).2 = x at *
    cases hb : belowN4 (clsN f a)
    · show (if false = true ∧ _ then _ else if false = false ∧ highK k < n then _ else _) = if highK k < n then _ else _
      rw [if_neg (by simp)]
      by_cases ho : highK k < n
      · rw [if_pos ⟨rfl, ho⟩, if_pos ho]; rfl
      · rw [if_neg (by simp; omega), if_neg ho, Nat.mod_eq_of_lt (by omega)]; rfl
    · by_cases hn0 : n = 0
      · subst hn0
        rw [if_neg (by simp), if_neg (by simp), if_neg (by simp), Nat.zero_mod]
        rw [told_zero]; rfl
      · rw [decide_eq_false hn0]
        show (if true = true ∧ lowK k < n then _ else if true = false ∧ _ then _ else _) = if lowK k < n then _ else _
        by_cases ho : lowK k < n
        · rw [if_pos ⟨rfl, ho⟩, if_pos ho]; rfl
        · rw [if_neg (by simp; omega), if_neg (by simp), if_neg ho, Nat.mod_eq_of_lt (by omega)]; rfl
theorem r19Convert_any (k f m a : Nat) (w : World) (ha : a < 2 ^ (64 * 2)) :
    Calls Tryz.prog 13 #[.int .u8 k, .int .u8 f, .int .u8 m, BV a] w fun e w' => e = .returned (.tuple #[.int .u64 ((convN k f m a).1 : Nat), .int .u8 ((convN k f m a).2.1 : Nat), .int .i64 (convN k f m a).2.2]) ∧ Below w.heap.size w w' := by
  have hno : convOk k f m a = false → convN k f m a = (0, 0, 2) := fun h => by unfold convN; rw [h]; rfl
  by_cases hk : k < 4
  case neg =>
    rw [hno (by unfold convOk; rw [decide_eq_false hk]; rfl)]
    exact r19C_k k f m a 0 false 0 0 0 0 ⟨#[]⟩ ⟨#[]⟩ w (by omega)
  have hk3 : (k : Int) ≤ 3 := by omega
  have hk2 : decide (3 < (k : Int)) = false := decide_eq_false (by omega)
  have cT := fun w => r7Fits_any f a w ha
  cases fa : fitsB f a
  case false =>
    rw [fa] at cT
    rw [hno (by unfold convOk; rw [fa]; simp)]
    exact r19C_t k f m a 0 false 0 0 0 0 ⟨#[]⟩ ⟨#[]⟩ w hk3 hk2 cT
  rw [fa] at cT
  have cM := fun w => r7RightMode_any m w
  by_cases hm : m < 5
  case neg =>
    rw [decide_eq_false hm] at cM
    rw [hno (by unfold convOk; rw [decide_eq_false hm]; simp)]
    exact r19C_m k f m a 0 false 0 0 0 0 ⟨#[]⟩ ⟨#[]⟩ w hk3 hk2 cT cM
  rw [decide_eq_true hm] at cM
  have hfm : (fitsB f a && decide (m < 5)) = true := by rw [fa, decide_eq_true hm]; rfl
  have hok : convOk k f m a = true := by unfold convOk; rw [hfm, decide_eq_true hk]; rfl
  have e1 : convN k f m a = ((convR k f m a).1, (convR k f m a).2, 0) := by unfold convN; rw [hok]; rfl
  rw [e1]
  have hf := ((fits_iff f a).1 fa).1
  have cS := fun w => r8Sign_any f a w ha
  rw [fa, Bool.true_and] at cS
  have cN := fun w => r8IsNaN_any f a w hf ha
  have cG := fun w => r19cGreatest_any k w hk
  have cL := fun w => r19cLeast_any k w hk
  have hno8 : noFin (clsN f a) = true → convR k f m a = cond (belowN4 (clsN f a)) (toldN k true (lowK k), 16) (toldN k false (highK k), 16) := fun h => by
    have hE : wholeE f m a = 80 := by unfold wholeE; rw [hfm, h]; rfl
    unfold convR; rw [hE, if_neg (by decide)]
  cases h8 : nanB (clsN f a)
  case true =>
    rw [h8] at cN
    have c8 : 8 ≤ clsN f a := by unfold nanB at h8; exact of_decide_eq_true h8
    rw [hno8 (by unfold noFin; rw [decide_eq_true (show 7 ≤ clsN f a by omega)]; simp), show belowN4 (clsN f a) = false by unfold belowN4; exact decide_eq_false (by omega)]
    exact r19C_n k f m a 0 false 0 0 0 _ ⟨#[]⟩ ⟨#[]⟩ w (negN f a) hk3 hk2 cT cM cS cN cG
  rw [h8] at cN
  have n8 : ¬ 8 ≤ clsN f a := by unfold nanB at h8; exact of_decide_eq_false h8
  have hbn := below_neg f a n8
  rw [← hbn] at cS
  have cI := fun w => r8IsInf_nt f a w hf ha
  cases hi : infB (clsN f a)
  case true =>
    rw [hi] at cI
    rw [hno8 (by unfold infB at hi; unfold noFin; simp only [Bool.or_eq_true, decide_eq_true_eq] at hi ⊢; omega)]
    cases hb : belowN4 (clsN f a)
    · rw [hb] at cS
      exact r19C_if k f m a 0 false 0 0 0 _ ⟨#[]⟩ ⟨#[]⟩ w hk3 hk2 cT cM cS cN cI cG
    · rw [hb] at cS
      exact r19C_it k f m a 0 false 0 0 0 _ ⟨#[]⟩ ⟨#[]⟩ w hk3 hk2 cT cM cS cN cI cL
  rw [hi] at cI
  have h7 : noFin (clsN f a) = false := by
    unfold infB at hi
    simp only [Bool.or_eq_false_iff, decide_eq_false_iff_not] at hi
    unfold noFin
    rw [decide_eq_false (by omega), decide_eq_false (by omega)]; rfl
  rw [conv_fin k f m a hk hfm h7]
  have cR := fun w => r19Rounded_any f m a w fa h8 hi
  have hG : wholeG f m a = gridN m (negN f a) (sigN f a) (xpN f a) false 0 := by unfold wholeG; rw [hbn]
  rw [← hG] at cR
  have cE := fun w => r19cends_any k w hk
  have hl := end_lt k
  generalize belowN4 (clsN f a) = g at *
  generalize (wholeG f m a).1 = n at *
  generalize (wholeG f m a).2 = x at *
  unfold toldR
  cases g
  · have cO := fun w => r5Of_any (highK k) w hl.2
    have cC := fun w => r5Cmp_any n (highK k) w
    have q := cmp_up n (highK k)
    show Calls _ _ _ w fun e w' => e = .returned (.tuple #[.int .u64 ((if highK k < n then (toldN k false (highK k), 16) else (toldN k false n, cond x 0 1)).1 : Nat), .int .u8 ((if highK k < n then (toldN k false (highK k), 16) else (toldN k false n, cond x 0 1)).2 : Nat), .int .i64 0]) ∧ _
    by_cases ho : highK k < n
    · rw [decide_eq_true ho] at q
      rw [if_pos ho]
      exact r19C_of k f m a 0 x _ _ _ _ _ _ w hk3 hk2 cT cM cS cN cI cR cE cO cC q cG
    rw [decide_eq_false ho] at q
    rw [if_neg ho]
    have hn : n < 18446744073709551616 := by omega
    have cW := fun w => r5ToWide_any n w (nb_small n hn)
    have hw : limb n 0 = ((neg64 false n : Nat) : Int) := limb0_small n hn
    by_cases hkk : k < 2
    · have cX := fun w => r1Extend32_any (neg64 false n) w (neg64_lt _ n hn)
      rw [← hw, show sext32 (neg64 false n) = toldN k false n by unfold toldN; rw [decide_eq_true hkk]; rfl] at cX
      obtain rfl | rfl : k = 0 ∨ k = 1 := by omega
      · cases x
        · exact r19C_vf0f f m a n false _ _ _ _ _ _ w cT cM cS cN cI cR cE cO cC q cW cX
        · exact r19C_vf0t f m a n true _ _ _ _ _ _ w cT cM cS cN cI cR cE cO cC q cW cX
      · cases x
        · exact r19C_vf1f f m a n false _ _ _ _ _ _ w cT cM cS cN cI cR cE cO cC q cW cX
        · exact r19C_vf1t f m a n true _ _ _ _ _ _ w cT cM cS cN cI cR cE cO cC q cW cX
    · rw [show toldN k false n = neg64 false n by unfold toldN; rw [decide_eq_false hkk]; rfl]
      have k0 : ((k : Int) == 0) = false := by simp; omega
      have k1 : ((k : Int) == 1) = false := by simp; omega
      show Calls _ _ _ w fun e w' => e = .returned (.tuple #[.int .u64 ((neg64 false n : Nat) : Int), _, _]) ∧ _
      rw [← hw]
      cases x
      · exact r19C_vfhf k f m a n false _ _ _ 0 _ _ w hk3 hk2 cT cM cS cN cI cR cE cO cC q cW k0 k1
      · exact r19C_vfht k f m a n true _ _ _ 0 _ _ w hk3 hk2 cT cM cS cN cI cR cE cO cC q cW k0 k1
  · have cO := fun w => r5Of_any (lowK k) w hl.1
    have cC := fun w => r5Cmp_any n (lowK k) w
    have q := cmp_up n (lowK k)
    show Calls _ _ _ w fun e w' => e = .returned (.tuple #[.int .u64 ((if lowK k < n then (toldN k true (lowK k), 16) else (toldN k true n, cond x 0 1)).1 : Nat), .int .u8 ((if lowK k < n then (toldN k true (lowK k), 16) else (toldN k true n, cond x 0 1)).2 : Nat), .int .i64 0]) ∧ _
    by_cases ho : lowK k < n
    · rw [decide_eq_true ho] at q
      rw [if_pos ho]
      exact r19C_ot k f m a 0 x _ _ _ _ _ _ w hk3 hk2 cT cM cS cN cI cR cE cO cC q cL
    rw [decide_eq_false ho] at q
    rw [if_neg ho]
    have hn : n < 18446744073709551616 := by omega
    have cW := fun w => r5ToWide_any n w (nb_small n hn)
    have hw : IntKind.u64.wrap (-limb n 0) = ((neg64 true n : Nat) : Int) := wrap_negN n hn
    by_cases hkk : k < 2
    · have cX := fun w => r1Extend32_any (neg64 true n) w (neg64_lt _ n hn)
      rw [← hw, show sext32 (neg64 true n) = toldN k true n by unfold toldN; rw [decide_eq_true hkk]; rfl] at cX
      obtain rfl | rfl : k = 0 ∨ k = 1 := by omega
      · cases x
        · exact r19C_vt0f f m a n false _ _ _ _ _ _ w cT cM cS cN cI cR cE cO cC q cW cX
        · exact r19C_vt0t f m a n true _ _ _ _ _ _ w cT cM cS cN cI cR cE cO cC q cW cX
      · cases x
        · exact r19C_vt1f f m a n false _ _ _ _ _ _ w cT cM cS cN cI cR cE cO cC q cW cX
        · exact r19C_vt1t f m a n true _ _ _ _ _ _ w cT cM cS cN cI cR cE cO cC q cW cX
    · rw [show toldN k true n = neg64 true n by unfold toldN; rw [decide_eq_false hkk]; rfl]
      have k0 : ((k : Int) == 0) = false := by simp; omega
      have k1 : ((k : Int) == 1) = false := by simp; omega
      show Calls _ _ _ w fun e w' => e = .returned (.tuple #[.int .u64 ((neg64 true n : Nat) : Int), _, _]) ∧ _
      rw [← hw]
      cases x
      · exact r19C_vthf k f m a n false _ _ _ 0 _ _ w hk3 hk2 cT cM cS cN cI cR cE cO cC q cW k0 k1
      · exact r19C_vtht k f m a n true _ _ _ 0 _ _ w hk3 hk2 cT cM cS cN cI cR cE cO cC q cW k0 k1
open Go.RowKit
theorem tointWhole_no (f m a c s fr : Nat) (x : Int) (w : World) (hT : Tab w) (cU : CT_ 120 #[.int .u8 f, BV a] (.tuple #[PV c s x fr, .int .i64 2])) :
    Calls Tryz.prog 42 #[.int .u8 f, .int .u8 m, BV a] w fun e w' => e = .returned (.tuple #[.bool false, W 0, .bool false, .int .i64 2]) ∧ Below w.heap.size w w' := by
  have H := Own.start w
  have HT := Lib.hid hT
  clear hT
  go_enter Tryz.func42, Tryz.ntmps42
  exact walk1
theorem tointWhole_mode (f m a c s fr : Nat) (x : Int) (w : World) (hT : Tab w) (cU : CT_ 120 #[.int .u8 f, BV a] (.tuple #[PV c s x fr, .int .i64 0])) (cM : ∀ w, Calls Tryz.prog 121 #[.int .u8 m] w fun e w' => e = .returned (.int .i64 2) ∧ w = w') :
    Calls Tryz.prog 42 #[.int .u8 f, .int .u8 m, BV a] w fun e w' => e = .returned (.tuple #[.bool false, W 0, .bool false, .int .i64 2]) ∧ Below w.heap.size w w' := by
  have H := Own.start w
  have HT := Lib.hid hT
  clear hT
  go_enter Tryz.func42, Tryz.ntmps42
  exact walk1
theorem tointWhole_inf0 (f m a s fr : Nat) (x : Int) (w : World) (hT : Tab w) (cU : CT_ 120 #[.int .u8 f, BV a] (.tuple #[PV 0 s x fr, .int .i64 0])) (cM : ∀ w, Calls Tryz.prog 121 #[.int .u8 m] w fun e w' => e = .returned (.int .i64 0) ∧ w = w') :
    Calls Tryz.prog 42 #[.int .u8 f, .int .u8 m, BV a] w fun e w' => e = .returned (.tuple #[.bool false, W 0, .bool false, .int .i64 80]) ∧ Below w.heap.size w w' := by
  have H := Own.start w
  have HT := Lib.hid hT
  clear hT
  go_enter Tryz.func42, Tryz.ntmps42
  exact walk1
theorem tointWhole_inf7 (f m a c s fr : Nat) (x : Int) (w : World) (hT : Tab w) (c0 : 7 ≤ (c : Int)) (cU : CT_ 120 #[.int .u8 f, BV a] (.tuple #[PV c s x fr, .int .i64 0])) (cM : ∀ w, Calls Tryz.prog 121 #[.int .u8 m] w fun e w' => e = .returned (.int .i64 0) ∧ w = w') :
    Calls Tryz.prog 42 #[.int .u8 f, .int .u8 m, BV a] w fun e w' => e = .returned (.tuple #[.bool false, W 0, .bool false, .int .i64 80]) ∧ Below w.heap.size w w' := by
  have H := Own.start w
  have HT := Lib.hid hT
  clear hT
  have c1 : ((c : Int) == 0) = false := by simp; omega
  go_enter Tryz.func42, Tryz.ntmps42
  exact walk1
theorem tointWhole_long (f m a c s fr n : Nat) (x : Int) (w : World) (hT : Tab w) (hc0 : 0 < c) (hc7 : c < 7) (x0 : 0 ≤ x) (cU : CT_ 120 #[.int .u8 f, BV a] (.tuple #[PV c s x fr, .int .i64 0])) (cM : ∀ w, Calls Tryz.prog 121 #[.int .u8 m] w fun e w' => e = .returned (.int .i64 0) ∧ w = w') (cL : CK_ 101 #[W s, .int .i64 x] (.tuple #[W n, .bool true])) :
    Calls Tryz.prog 42 #[.int .u8 f, .int .u8 m, BV a] w fun e w' => e = .returned (.tuple #[.bool false, W 0, .bool false, .int .i64 4]) ∧ Below w.heap.size w w' := by
  have H := Own.start w
  have HT := Lib.hid hT
  clear hT
  have c1 : ((c : Int) == 0) = false := by simp; omega
  have c2 : decide (7 ≤ (c : Int)) = false := by simp; omega
  go_enter Tryz.func42, Tryz.ntmps42
  exact walk1
open Go.RowKit
theorem tointWhole_up_t (f m a c s fr n : Nat) (x : Int) (w : World) (hT : Tab w) (hc0 : 0 < c) (hc7 : c < 7) (hc4 : decide ((c : Int) < 4) = true) (hn : n < top6) (x0 : 0 ≤ x) (cU : CT_ 120 #[.int .u8 f, BV a] (.tuple #[PV c s x fr, .int .i64 0])) (cM : ∀ w, Calls Tryz.prog 121 #[.int .u8 m] w fun e w' => e = .returned (.int .i64 0) ∧ w = w') (cL : CK_ 101 #[W s, .int .i64 x] (.tuple #[W n, .bool false])) :
    Calls Tryz.prog 42 #[.int .u8 f, .int .u8 m, BV a] w fun e w' => e = .returned (.tuple #[.bool (!decide (n = 0)), W n, .bool true, .int .i64 0]) ∧ Below w.heap.size w w' := by
  have H := Own.start w
  have HT := Lib.hid hT
  clear hT
  have c1 : ((c : Int) == 0) = false := by simp; omega
  have c2 : decide (7 ≤ (c : Int)) = false := by simp; omega
  have eq1 : ∀ w, (Op.equalIn 10000 60 (.agg (limbs n)) (.agg #[.int .u64 0, .int .u64 0, .int .u64 0, .int .u64 0, .int .u64 0, .int .u64 0])).run Tryz.prog w = .ok (decide (n = 0)) w := fun w => run_equal_zero w n hn
  clear hn hc0 hc7
  go_enter Tryz.func42, Tryz.ntmps42
  exact walk1
theorem tointWhole_up_f (f m a c s fr n : Nat) (x : Int) (w : World) (hT : Tab w) (hc0 : 0 < c) (hc7 : c < 7) (hc4 : decide ((c : Int) < 4) = false) (hn : n < top6) (x0 : 0 ≤ x) (cU : CT_ 120 #[.int .u8 f, BV a] (.tuple #[PV c s x fr, .int .i64 0])) (cM : ∀ w, Calls Tryz.prog 121 #[.int .u8 m] w fun e w' => e = .returned (.int .i64 0) ∧ w = w') (cL : CK_ 101 #[W s, .int .i64 x] (.tuple #[W n, .bool false])) :
    Calls Tryz.prog 42 #[.int .u8 f, .int .u8 m, BV a] w fun e w' => e = .returned (.tuple #[.bool false, W n, .bool true, .int .i64 0]) ∧ Below w.heap.size w w' := by
  have H := Own.start w
  have HT := Lib.hid hT
  clear hT
  have c1 : ((c : Int) == 0) = false := by simp; omega
  have c2 : decide (7 ≤ (c : Int)) = false := by simp; omega
  have eq1 : ∀ w, (Op.equalIn 10000 60 (.agg (limbs n)) (.agg #[.int .u64 0, .int .u64 0, .int .u64 0, .int .u64 0, .int .u64 0, .int .u64 0])).run Tryz.prog w = .ok (decide (n = 0)) w := fun w => run_equal_zero w n hn
  clear hn hc0 hc7
  go_enter Tryz.func42, Tryz.ntmps42
  exact walk1
open Go.RowKit
theorem wideOf_one (w : World) : Calls Tryz.prog 47 #[.int .u64 1] w fun e w' => e = .returned (W 1) ∧ Below w.heap.size w w' := wideOf_any 1 w (by decide)
theorem tointWhole_cut_tt (f m a c s fr n : Nat) (x half : Int) (ex : Bool) (w : World) (hT : Tab w) (hc0 : 0 < c) (hc7 : c < 7) (hc4 : decide ((c : Int) < 4) = true) (hn : (n + 1) < top6) (x0 : x < 0) (x1 : -40000 < x) (cU : CT_ 120 #[.int .u8 f, BV a] (.tuple #[PV c s x fr, .int .i64 0])) (cM : ∀ w, Calls Tryz.prog 121 #[.int .u8 m] w fun e w' => e = .returned (.int .i64 0) ∧ w = w') (cC : CT_ 122 #[W s, .int .i64 (-x)] (.tuple #[W n, .int .i64 half, .bool ex])) (cR : ∀ w, Calls Tryz.prog 123 #[.int .u8 m, .bool true, .bool (Go.bits .and .u64 (limb n 0) 1 == 1), .int .i64 half, .bool ex] w fun e w' => e = .returned (.bool true) ∧ w = w') :
    Calls Tryz.prog 42 #[.int .u8 f, .int .u8 m, BV a] w fun e w' => e = .returned (.tuple #[.bool (!decide ((n + 1) = 0)), W (n + 1), .bool ex, .int .i64 0]) ∧ Below w.heap.size w w' := by
  have H := Own.start w
  have HT := Lib.hid hT
  clear hT
  have c1 : ((c : Int) == 0) = false := by simp; omega
  have c2 : decide (7 ≤ (c : Int)) = false := by simp; omega
  have x2 : ¬ 0 ≤ x := by omega
  have eq1 : ∀ w, (Op.equalIn 10000 60 (.agg (limbs (n + 1))) (.agg #[.int .u64 0, .int .u64 0, .int .u64 0, .int .u64 0, .int .u64 0, .int .u64 0])).run Tryz.prog w = .ok (decide ((n + 1) = 0)) w := fun w => run_equal_zero w (n + 1) hn
  clear hn hc0 hc7
  go_enter Tryz.func42, Tryz.ntmps42
  exact walk2
theorem tointWhole_cut_tf (f m a c s fr n : Nat) (x half : Int) (ex : Bool) (w : World) (hT : Tab w) (hc0 : 0 < c) (hc7 : c < 7) (hc4 : decide ((c : Int) < 4) = false) (hn : (n + 1) < top6) (x0 : x < 0) (x1 : -40000 < x) (cU : CT_ 120 #[.int .u8 f, BV a] (.tuple #[PV c s x fr, .int .i64 0])) (cM : ∀ w, Calls Tryz.prog 121 #[.int .u8 m] w fun e w' => e = .returned (.int .i64 0) ∧ w = w') (cC : CT_ 122 #[W s, .int .i64 (-x)] (.tuple #[W n, .int .i64 half, .bool ex])) (cR : ∀ w, Calls Tryz.prog 123 #[.int .u8 m, .bool false, .bool (Go.bits .and .u64 (limb n 0) 1 == 1), .int .i64 half, .bool ex] w fun e w' => e = .returned (.bool true) ∧ w = w') :
    Calls Tryz.prog 42 #[.int .u8 f, .int .u8 m, BV a] w fun e w' => e = .returned (.tuple #[.bool false, W (n + 1), .bool ex, .int .i64 0]) ∧ Below w.heap.size w w' := by
  have H := Own.start w
  have HT := Lib.hid hT
  clear hT
  have c1 : ((c : Int) == 0) = false := by simp; omega
  have c2 : decide (7 ≤ (c : Int)) = false := by simp; omega
  have x2 : ¬ 0 ≤ x := by omega
  have eq1 : ∀ w, (Op.equalIn 10000 60 (.agg (limbs (n + 1))) (.agg #[.int .u64 0, .int .u64 0, .int .u64 0, .int .u64 0, .int .u64 0, .int .u64 0])).run Tryz.prog w = .ok (decide ((n + 1) = 0)) w := fun w => run_equal_zero w (n + 1) hn
  clear hn hc0 hc7
  go_enter Tryz.func42, Tryz.ntmps42
  exact walk2
theorem tointWhole_cut_ft (f m a c s fr n : Nat) (x half : Int) (ex : Bool) (w : World) (hT : Tab w) (hc0 : 0 < c) (hc7 : c < 7) (hc4 : decide ((c : Int) < 4) = true) (hn : n < top6) (x0 : x < 0) (x1 : -40000 < x) (cU : CT_ 120 #[.int .u8 f, BV a] (.tuple #[PV c s x fr, .int .i64 0])) (cM : ∀ w, Calls Tryz.prog 121 #[.int .u8 m] w fun e w' => e = .returned (.int .i64 0) ∧ w = w') (cC : CT_ 122 #[W s, .int .i64 (-x)] (.tuple #[W n, .int .i64 half, .bool ex])) (cR : ∀ w, Calls Tryz.prog 123 #[.int .u8 m, .bool true, .bool (Go.bits .and .u64 (limb n 0) 1 == 1), .int .i64 half, .bool ex] w fun e w' => e = .returned (.bool false) ∧ w = w') :
    Calls Tryz.prog 42 #[.int .u8 f, .int .u8 m, BV a] w fun e w' => e = .returned (.tuple #[.bool (!decide (n = 0)), W n, .bool ex, .int .i64 0]) ∧ Below w.heap.size w w' := by
  have H := Own.start w
  have HT := Lib.hid hT
  clear hT
  have c1 : ((c : Int) == 0) = false := by simp; omega
  have c2 : decide (7 ≤ (c : Int)) = false := by simp; omega
  have x2 : ¬ 0 ≤ x := by omega
  have eq1 : ∀ w, (Op.equalIn 10000 60 (.agg (limbs n)) (.agg #[.int .u64 0, .int .u64 0, .int .u64 0, .int .u64 0, .int .u64 0, .int .u64 0])).run Tryz.prog w = .ok (decide (n = 0)) w := fun w => run_equal_zero w n hn
  clear hn hc0 hc7
  go_enter Tryz.func42, Tryz.ntmps42
  exact walk2
theorem tointWhole_cut_ff (f m a c s fr n : Nat) (x half : Int) (ex : Bool) (w : World) (hT : Tab w) (hc0 : 0 < c) (hc7 : c < 7) (hc4 : decide ((c : Int) < 4) = false) (hn : n < top6) (x0 : x < 0) (x1 : -40000 < x) (cU : CT_ 120 #[.int .u8 f, BV a] (.tuple #[PV c s x fr, .int .i64 0])) (cM : ∀ w, Calls Tryz.prog 121 #[.int .u8 m] w fun e w' => e = .returned (.int .i64 0) ∧ w = w') (cC : CT_ 122 #[W s, .int .i64 (-x)] (.tuple #[W n, .int .i64 half, .bool ex])) (cR : ∀ w, Calls Tryz.prog 123 #[.int .u8 m, .bool false, .bool (Go.bits .and .u64 (limb n 0) 1 == 1), .int .i64 half, .bool ex] w fun e w' => e = .returned (.bool false) ∧ w = w') :
    Calls Tryz.prog 42 #[.int .u8 f, .int .u8 m, BV a] w fun e w' => e = .returned (.tuple #[.bool false, W n, .bool ex, .int .i64 0]) ∧ Below w.heap.size w w' := by
  have H := Own.start w
  have HT := Lib.hid hT
  clear hT
  have c1 : ((c : Int) == 0) = false := by simp; omega
  have c2 : decide (7 ≤ (c : Int)) = false := by simp; omega
  have x2 : ¬ 0 ≤ x := by omega
  have eq1 : ∀ w, (Op.equalIn 10000 60 (.agg (limbs n)) (.agg #[.int .u64 0, .int .u64 0, .int .u64 0, .int .u64 0, .int .u64 0, .int .u64 0])).run Tryz.prog w = .ok (decide (n = 0)) w := fun w => run_equal_zero w n hn
  clear hn hc0 hc7
  go_enter Tryz.func42, Tryz.ntmps42
  exact walk2
open Go.RowKit
theorem odd_limb (n : Nat) : (Go.bits .and .u64 (limb n 0) 1 == 1) = decide (n % 2 = 1) := by
  have h1 : (1 : Int) = limb 1 0 := rfl
  rw [h1, limb_and, show n &&& 1 = n % 2 from Nat.and_one_is_mod n, ← h1]
  unfold limb limbN
  rw [Nat.mul_zero, Nat.pow_zero, Nat.div_one, Nat.mod_eq_of_lt (by omega), Bool.eq_iff_iff, beq_iff_eq, decide_eq_true_iff]
  omega
theorem halfN_cases (a n : Nat) : halfN a n = -1 ∨ halfN a n = 0 ∨ halfN a n = 1 := by
  unfold halfN
  split
  · simp
  · split
    · split <;> simp
    · simp
theorem sigN_lt (f a : Nat) (hf : f < 4) : sigN f a < 2 ^ 113 := by
  have ht := Nat.mod_lt a (two_pos (pF f - 1))
  have hp := pow_pred f hf
  have h8 := (formK f hf).2.2.2.2.2.2.2
  have hm : 2 ^ pF f ≤ 2 ^ 113 := Nat.pow_le_pow_right (by decide) h8
  unfold sigN
  split
  · omega
  · split
    · omega
    · have := two_pos (pF f); omega
theorem lt_of_pow (T b c x : Nat) (h : T = 2 ^ c) (hb : b ≤ c) (hx : x < 2 ^ b) : x < T := by rw [h]; exact Nat.lt_of_lt_of_le hx (pow_mono2 b c hb)
theorem lt_top113 (x : Nat) (h : x < 2 ^ 114) : x < top6 := lt_of_pow top6 114 (64 * 6) x top6.eq_1 (by decide) h
theorem xpN_bd (f a : Nat) (hf : f < 4) : -40000 < xpN f a ∧ xpN f a < 40000 := by
  obtain ⟨h1, h2, h3, h4, h5, h6, h7, h8⟩ := formK f hf
  have hx := expN_lt f a hf
  unfold xpN
  split
  · omega
  · split <;> omega
theorem ret_whole {n n' : Bool} {v v' : Nat} {x x' : Bool} {d d' : Int} {e : Ending} {P : Prop} (h1 : n = n') (h2 : v = v') (h3 : x = x') (h4 : d = d') (k : e = .returned (.tuple #[.bool n, W v, .bool x, .int .i64 d]) ∧ P) :
    e = .returned (.tuple #[.bool n', W v', .bool x', .int .i64 d']) ∧ P := by subst h1 h2 h3 h4; exact k
theorem tointWhole_any (f m a : Nat) (w : World) (hm : m < 256) (ha : a < 2 ^ (64 * 2)) (hT : Tab w) :
    Calls Tryz.prog 42 #[.int .u8 f, .int .u8 m, BV a] w fun e w' => e = .returned (.tuple #[.bool (wholeNeg f m a), W (wholeN f m a), .bool (wholeX f m a), .int .i64 (wholeE f m a)]) ∧ Below w.heap.size w w' := by
  have cM := fun w => shapeCheckMode_any m w hm
  by_cases hfit : fitsB f a = true
  · have hf := ((fits_iff f a).1 hfit).1
    have cU := fun w hT => kindUnpack_yes f a w hfit hT
    have hs := sigN_lt f a hf
    obtain ⟨hx1, hx2⟩ := xpN_bd f a hf
    have hc9 := cls_le f a
    by_cases h5 : m < 5
    · rw [decide_eq_true h5] at cM
      have okE : wholeE f m a = cond (noFin (clsN f a)) 80 (cond (decide (top6 ≤ (wholeG f m a).1)) 4 0) := by unfold wholeE; rw [hfit, decide_eq_true h5]; rfl
      by_cases hnf : clsN f a = 0 ∨ 7 ≤ clsN f a
      · have hE : wholeE f m a = 80 := by rw [okE]; unfold noFin; rcases hnf with h | h <;> simp [h]
        have post : ∀ e w', (e = Ending.returned (.tuple #[.bool false, W 0, .bool false, .int .i64 80]) ∧ Below w.heap.size w w') → e = Ending.returned (.tuple #[.bool (wholeNeg f m a), W (wholeN f m a), .bool (wholeX f m a), .int .i64 (wholeE f m a)]) ∧ Below w.heap.size w w' := fun e w' k =>
          ret_whole (by unfold wholeNeg; rw [hE]; rfl) (by unfold wholeN; rw [hE]; rfl) (by unfold wholeX; rw [hE]; rfl) hE.symm k
        rcases hnf with h | h
        · rw [h] at cU
          exact (tointWhole_inf0 f m a _ _ _ w hT cU cM).mono post
        · exact (tointWhole_inf7 f m a _ _ _ _ w hT (by omega) cU cM).mono post
      · have hc0 : 0 < clsN f a := by omega
        have hc7 : clsN f a < 7 := by omega
        have hnF : noFin (clsN f a) = false := by unfold noFin; rw [decide_eq_false (by omega), decide_eq_false (by omega)]; rfl
        rw [hnF] at okE
        have hb4 : decide ((clsN f a : Int) < 4) = belowN4 (clsN f a) := by unfold belowN4; rw [Bool.eq_iff_iff, decide_eq_true_iff, decide_eq_true_iff]; omega
        by_cases hx : 0 ≤ xpN f a
        · have hG : wholeG f m a = (sigN f a * 2 ^ (xpN f a).toNat, true) := by
            unfold wholeG gridN; rw [if_pos hx, Int.sub_zero]; rfl
          have cL := fun w => wideLeft_n (sigN f a) (xpN f a) w (lt_top113 _ (by omega))
          by_cases hlong : top6 ≤ sigN f a * 2 ^ (xpN f a).toNat
          · rw [decide_eq_true hlong] at cL
            have hE : wholeE f m a = 4 := by rw [okE, hG, decide_eq_true hlong]; rfl
            exact (tointWhole_long f m a _ _ _ _ _ w hT hc0 hc7 hx cU cM cL).mono fun e w' k =>
              ret_whole (by unfold wholeNeg; rw [hE]; rfl) (by unfold wholeN; rw [hE]; rfl) (by unfold wholeX; rw [hE]; rfl) hE.symm k
          · rw [decide_eq_false hlong] at cL
            have hE : wholeE f m a = 0 := by rw [okE, hG, decide_eq_false hlong]; rfl
            cases hb : belowN4 (clsN f a)
            · exact (tointWhole_up_f f m a _ _ _ _ _ w hT hc0 hc7 (hb4.trans hb) (by omega) hx cU cM cL).mono fun e w' k =>
                ret_whole (by unfold wholeNeg; rw [hE, hb]; rfl) (by unfold wholeN; rw [hE, hG]; rfl) (by unfold wholeX; rw [hE, hG]; rfl) hE.symm k
            · exact (tointWhole_up_t f m a _ _ _ _ _ w hT hc0 hc7 (hb4.trans hb) (by omega) hx cU cM cL).mono fun e w' k =>
                ret_whole (by unfold wholeNeg; rw [hE, hb, hG]; rfl) (by unfold wholeN; rw [hE, hG]; rfl) (by unfold wholeX; rw [hE, hG]; rfl) hE.symm k
        · have ht : (0 - xpN f a).toNat = (-xpN f a).toNat := by rw [Int.zero_sub]
          have cC := fun w hT => jamCut_any (sigN f a) (-xpN f a) w (lt_top113 _ (by omega)) hT
          have cR := fun w => roundUp_any m (belowN4 (clsN f a)) (Go.bits .and .u64 (limb (sigN f a / 2 ^ (-xpN f a).toNat) 0) 1 == 1) (halfN (sigN f a) (-xpN f a).toNat) (decide (sigN f a % 2 ^ (-xpN f a).toNat = 0)) w hm (halfN_cases _ _)
          have hq : sigN f a / 2 ^ (-xpN f a).toNat ≤ sigN f a := Nat.div_le_self _ _
          cases hu : upB m (belowN4 (clsN f a)) (Go.bits .and .u64 (limb (sigN f a / 2 ^ (-xpN f a).toNat) 0) 1 == 1) (halfN (sigN f a) (-xpN f a).toNat) (decide (sigN f a % 2 ^ (-xpN f a).toNat = 0))
          · have hG : wholeG f m a = (sigN f a / 2 ^ (-xpN f a).toNat, decide (sigN f a % 2 ^ (-xpN f a).toNat = 0)) := by
              unfold wholeG gridN; rw [if_neg hx, ht]
              rw [odd_limb] at hu
              simp only [Bool.false_and, cond, Bool.not_false, Bool.and_true]
              rw [hu]; rfl
            have hE : wholeE f m a = 0 := by rw [okE, hG, decide_eq_false (by have := lt_top113 _ (show sigN f a / 2 ^ (-xpN f a).toNat < 2 ^ 114 by omega); first | omega | (simp only []; omega))]; rfl
            rw [hu] at cR
            cases hb : belowN4 (clsN f a)
            · rw [hb] at cR
              exact (tointWhole_cut_ff f m a _ _ _ _ _ _ _ w hT hc0 hc7 (hb4.trans hb) (lt_top113 _ (by omega)) (by omega) hx1 cU cM cC cR).mono fun e w' k =>
                ret_whole (by unfold wholeNeg; rw [hE, hb]; rfl) (by unfold wholeN; rw [hE, hG]; rfl) (by unfold wholeX; rw [hE, hG]; rfl) hE.symm k
            · rw [hb] at cR
              exact (tointWhole_cut_ft f m a _ _ _ _ _ _ _ w hT hc0 hc7 (hb4.trans hb) (lt_top113 _ (by omega)) (by omega) hx1 cU cM cC cR).mono fun e w' k =>
                ret_whole (by unfold wholeNeg; rw [hE, hb, hG]; rfl) (by unfold wholeN; rw [hE, hG]; rfl) (by unfold wholeX; rw [hE, hG]; rfl) hE.symm k
          · have hG : wholeG f m a = (sigN f a / 2 ^ (-xpN f a).toNat + 1, decide (sigN f a % 2 ^ (-xpN f a).toNat = 0)) := by
              unfold wholeG gridN; rw [if_neg hx, ht]
              rw [odd_limb] at hu
              simp only [Bool.false_and, cond, Bool.not_false, Bool.and_true]
              rw [hu]
            have hE : wholeE f m a = 0 := by rw [okE, hG, decide_eq_false (by have := lt_top113 _ (show sigN f a / 2 ^ (-xpN f a).toNat + 1 < 2 ^ 114 by omega); first | omega | (simp only []; omega))]; rfl
            rw [hu] at cR
            cases hb : belowN4 (clsN f a)
            · rw [hb] at cR
              exact (tointWhole_cut_tf f m a _ _ _ _ _ _ _ w hT hc0 hc7 (hb4.trans hb) (lt_top113 _ (by omega)) (by omega) hx1 cU cM cC cR).mono fun e w' k =>
                ret_whole (by unfold wholeNeg; rw [hE, hb]; rfl) (by unfold wholeN; rw [hE, hG]; rfl) (by unfold wholeX; rw [hE, hG]; rfl) hE.symm k
            · rw [hb] at cR
              exact (tointWhole_cut_tt f m a _ _ _ _ _ _ _ w hT hc0 hc7 (hb4.trans hb) (lt_top113 _ (by omega)) (by omega) hx1 cU cM cC cR).mono fun e w' k =>
                ret_whole (by unfold wholeNeg; rw [hE, hb, hG]; rfl) (by unfold wholeN; rw [hE, hG]; rfl) (by unfold wholeX; rw [hE, hG]; rfl) hE.symm k
    · rw [decide_eq_false h5] at cM
      have hE : wholeE f m a = 2 := by unfold wholeE; rw [decide_eq_false h5, Bool.and_false]; rfl
      exact (tointWhole_mode f m a _ _ _ _ w hT cU cM).mono fun e w' k =>
        ret_whole (by unfold wholeNeg; rw [hE]; rfl) (by unfold wholeN; rw [hE]; rfl) (by unfold wholeX; rw [hE]; rfl) hE.symm k
  · have hfit' : fitsB f a = false := by simpa using hfit
    have cU := fun w (_ : Tab w) => kindUnpack_not f a w ha hfit'
    have hE : wholeE f m a = 2 := by unfold wholeE; rw [hfit', Bool.false_and]; rfl
    exact (tointWhole_no f m a _ _ _ _ w hT cU).mono fun e w' k =>
      ret_whole (by unfold wholeNeg; rw [hE]; rfl) (by unfold wholeN; rw [hE]; rfl) (by unfold wholeX; rw [hE]; rfl) hE.symm k
open Go.RowKit
theorem sext_wrap (x : Nat) : IntKind.u64.wrap (wrap64 (wrap32 ((x : Int) % 4294967296))) = ((sext32 x : Nat) : Int) := by
  simp only [wrap64, wrap32, IntKind.wrap_u64]
  unfold sext32
  by_cases hh : x % 4294967296 < 2147483648
  · rw [decide_eq_true hh]; simp only [cond]; omega
  · rw [decide_eq_false hh]; simp only [cond]; omega
theorem sext_neg (n : Nat) (h : n < 18446744073709551616) : IntKind.u64.wrap (wrap64 (wrap32 (IntKind.u64.wrap (-(n : Int)) % 4294967296))) = ((sext32 (neg64 true n) : Nat) : Int) := by
  rw [wrap_neg64 n h, sext_wrap]
theorem toldN_low (k n : Nat) (neg : Bool) (hk : k < 2) : toldN k neg n = sext32 (neg64 neg n) := by unfold toldN; rw [decide_eq_true hk]; rfl
theorem toldN_high (k n : Nat) (neg : Bool) (hk : ¬ k < 2) : toldN k neg n = neg64 neg n := by unfold toldN; rw [decide_eq_false hk]; rfl
theorem tointTold_any (k n : Nat) (neg : Bool) (w : World) (hk : k < 4) (hn : n < 18446744073709551616) :
    Calls Tryz.prog 45 #[.int .u8 k, .bool neg, .int .u64 n] w fun e w' => e = .returned (.int .u64 (toldN k neg n : Nat)) ∧ w = w' := by
  have HN := Lib.hid hn
  clear hn
  have : k = 0 ∨ k = 1 ∨ k = 2 ∨ k = 3 := by omega
  rcases this with rfl | rfl | rfl | rfl <;> cases neg
  · rw [toldN_low _ _ _ (by decide)]
    go_enter Tryz.func45, Tryz.ntmps45
    go_wp2
    go_ret
    exact ⟨ret_int (sext_wrap n), rfl⟩
  · rw [toldN_low _ _ _ (by decide)]
    go_enter Tryz.func45, Tryz.ntmps45
    go_wp2
    go_ret
    exact ⟨ret_int (sext_neg n HN.out), rfl⟩
  · rw [toldN_low _ _ _ (by decide)]
    go_enter Tryz.func45, Tryz.ntmps45
    go_wp2
    go_ret
    exact ⟨ret_int (sext_wrap n), rfl⟩
  · rw [toldN_low _ _ _ (by decide)]
    go_enter Tryz.func45, Tryz.ntmps45
    go_wp2
    go_ret
    exact ⟨ret_int (sext_neg n HN.out), rfl⟩
  · rw [toldN_high _ _ _ (by decide)]
    go_enter Tryz.func45, Tryz.ntmps45
    go_wp2
    go_ret
    exact ⟨rfl, rfl⟩
  · rw [toldN_high _ _ _ (by decide)]
    go_enter Tryz.func45, Tryz.ntmps45
    go_wp2
    go_ret
    exact ⟨ret_int (wrap_neg64 n HN.out), rfl⟩
  · rw [toldN_high _ _ _ (by decide)]
    go_enter Tryz.func45, Tryz.ntmps45
    go_wp2
    go_ret
    exact ⟨rfl, rfl⟩
  · rw [toldN_high _ _ _ (by decide)]
    go_enter Tryz.func45, Tryz.ntmps45
    go_wp2
    go_ret
    exact ⟨ret_int (wrap_neg64 n HN.out), rfl⟩
open Go.RowKit
theorem div_step (a k : Nat) : a / 2 ^ (64 * k) = a / 2 ^ (64 * (k + 1)) * 18446744073709551616 + limbN a k := by
  unfold limbN
  rw [pw_succ, ← Nat.div_div_eq_div_mul]
  have := Nat.div_add_mod (a / 2 ^ (64 * k)) 18446744073709551616
  omega
theorem cmp_less (a b k : Nat) (h : a / 2 ^ (64 * (k + 1)) = b / 2 ^ (64 * (k + 1))) (hl : limbN a k < limbN b k) : a < b := by
  have h1 := div_step a k
  have h2 := div_step b k
  rw [h] at h1
  rcases Nat.lt_or_ge a b with hab | hab
  · exact hab
  · have := Nat.div_le_div_right (c := 2 ^ (64 * k)) hab
    omega
theorem cmp_same (a b k : Nat) (h : a / 2 ^ (64 * (k + 1)) = b / 2 ^ (64 * (k + 1))) (hl : limbN a k = limbN b k) : a / 2 ^ (64 * k) = b / 2 ^ (64 * k) := by
  rw [div_step a k, div_step b k, h, hl]
def EqFrom (a b k : Nat) : Prop := a / 2 ^ (64 * k) = b / 2 ^ (64 * k)
theorem eqFrom6 {a b : Nat} (ha : a < top6) (hb : b < top6) : EqFrom a b 6 := by
  unfold top6 at ha hb
  unfold EqFrom
  rw [Nat.div_eq_of_lt ha, Nat.div_eq_of_lt hb]
theorem below_drewN {B : Nat} {w w' : World} (h : Below B w w') (n : Nat) : Below B w (w'.drewN n) := ⟨h.os, h.tape, h.output, h.size, h.block⟩
theorem limb_lt (a b k : Nat) : limb a k < limb b k ↔ limbN a k < limbN b k := by unfold limb; omega
theorem wideCmp_any (a b : Nat) (w : World) (ha : a < top6) (hb : b < top6) :
    Calls Tryz.prog 46 #[W a, W b] w fun e w' => e = .returned (.int .i64 (cmpN a b)) ∧ Below w.heap.size w w' := by
  have sa := limbs_size a
  have sb := limbs_size b
  have E6 := eqFrom6 ha hb
  clear ha hb
  go_enter Tryz.func46, Tryz.ntmps46
  go_wp2_with fail
  go_loopw [5] (fun i wr => ∃ k : Nat, k ≤ 6 ∧ i = .int .i64 ((k : Int) - 1) ∧ EqFrom a b k ∧ Blk 60 wr w.heap.size (limbs a) ∧ Blk 60 wr (w.heap.size + 1) (limbs b) ∧ Below w.heap.size w wr) (fun i _ => (intOf i + 1).toNat)
  case atStart =>
    refine ⟨6, by omega, rfl, E6, (Blk.new w _).alloc _, ?_, ((Below.refl _ _).alloc (Nat.le_refl _) _).alloc (by simp) _⟩
    have := Blk.new (T := 60) (w.alloc (.cells (limbs a) 60)) (limbs b)
    simpa using this
  case round =>
    obtain ⟨k, hk, rfl, hE, hA, hB, hbel⟩ := hrel
    cases k with
    | zero =>
      have Z := Lib.hid (show (0 : Int) = cmpN a b by
        have : a = b := by have := hE; unfold EqFrom at this; simpa using this
        unfold cmpN; rw [if_neg (by omega), if_neg (by omega)])
      clear hE
      go_wp2_with fail
      go_ret
      exact ⟨ret_int Z.out, hbel⟩
    | succ j =>
      have ca := hA.cell j (limbs_get a j (by omega))
      have cb := hB.cell j (limbs_get b j (by omega))
      rw [show ((j + 1 : Nat) : Int) - 1 = (j : Int) by omega]
      by_cases h1 : limb a j < limb b j
      · have Z := Lib.hid (show (-1 : Int) = cmpN a b by
          have := cmp_less a b j hE ((limb_lt a b j).1 h1)
          unfold cmpN; rw [if_pos this])
        have d1 : decide (limb a j < limb b j) = true := decide_eq_true h1
        clear hE
        go_wp2_with fail
        go_quiet (fail)
        go_wp2_with fail
        go_ret
        exact ⟨ret_int Z.out, below_drewN hbel _⟩
      · have d1 : decide (limb a j < limb b j) = false := decide_eq_false h1
        by_cases h2 : limb b j < limb a j
        · have Z := Lib.hid (show (1 : Int) = cmpN a b by
            have := cmp_less b a j hE.symm ((limb_lt b a j).1 h2)
            unfold cmpN; rw [if_neg (by omega), if_pos this])
          have d2 : decide (limb b j < limb a j) = true := decide_eq_true h2
          clear hE h1
          go_wp2_with fail
          go_quiet (fail)
          go_wp2_with fail
          go_quiet (fail)
          go_wp2_with fail
          go_ret
          exact ⟨ret_int Z.out, below_drewN (below_drewN hbel _) _⟩
        · have d2 : decide (limb b j < limb a j) = false := decide_eq_false h2
          have S : EqFrom a b j := cmp_same a b j hE (by unfold limb at h1 h2; omega)
          clear hE h1 h2
          go_wp2_with fail
          go_quiet (fail)
          go_wp2_with fail
          go_quiet (fail)
          go_wp2_with fail
          go_roundw
          case rel => exact ⟨j, by omega, rfl, S, hA, hB, below_drewN hbel _⟩
          case measure => simp [intOf]
end Go.Proofs.YtgmhmpflmgfcdaaGreatDoor
