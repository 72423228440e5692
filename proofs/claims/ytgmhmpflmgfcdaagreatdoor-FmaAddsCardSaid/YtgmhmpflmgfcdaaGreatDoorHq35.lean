/- Part 35 of the proof. -/
import Derived.Test.YtgmhmpflmgfcdaaGreatDoorHq4
import Derived.Test.YtgmhmpflmgfcdaaGreatDoorHq5
import Derived.Test.YtgmhmpflmgfcdaaGreatDoorHq32
import Derived.Test.YtgmhmpflmgfcdaaGreatDoorHq33
import Derived.Test.YtgmhmpflmgfcdaaGreatDoorHq34
set_option linter.unusedSimpArgs false
set_option linter.unusedVariables false
set_option linter.unnecessarySimpa false
set_option maxRecDepth 100000
set_option maxHeartbeats 3200000
namespace Go.Proofs.YtgmhmpflmgfcdaaGreatDoor
open Go.RowKit Go.Proofs.YtgmhmpflmgfcdaaGreatDoorW.PrintWords Go.Proofs.YtgmhmpflmgfcdaaGreatDoor.PDivQuotients
theorem and1_u8 : ∀ b : Nat, b < 256 → (Go.bits .and .u8 (b : Int) 1 == 1) = decide (b % 2 = 1) := by decide +kernel
theorem odd_byte (n : Nat) : byt n 0 % 2 = n % 2 := by unfold byt; rw [Nat.pow_zero, Nat.div_one]; omega
theorem last_strB (n : Nat) (hn : nb n ≤ 100000) : z09_last.f (strB n) = some (decide (n % 2 = 1)) := by
 unfold z09_last.f
 by_cases h : n = 0
 ·rw [if_pos ((strB_empty n).2 h), h]; rfl
 ·have hb := nb_pos n h
  have e : wrap64 ((nb n : Int) - 1) = ((nb n - 1 : Nat) : Int) := by rw [wrap_id _ (by omega) (by omega)]; omega
  rw [if_neg (fun e => h ((strB_empty n).1 e)), size_strB, e, if_pos (by omega), if_pos (by omega), bt_strB n _ (by omega), show nb n - 1 - (nb n - 1) = 0 by omega, and1_u8 _ (byt_lt n 0), odd_byte]
theorem odd_strB (n : Nat) (hn : nb n ≤ 100000) : z06_odd.f (strB n) = some (decide (n % 2 = 1)) := last_strB n hn
theorem len_monoQ (x y : Nat) (h : x ≤ y) : lenN x ≤ lenN y := (lenN_le x _).2 (Nat.lt_of_le_of_lt h (lenN_lt y))
theorem nb_monoQ (x y : Nat) (h : x ≤ y) : nb x ≤ nb y := by have := len_monoQ x y h; unfold nb; omega
theorem nb_addQ (a b m : Nat) (ha : nb a ≤ m) (hb : nb b ≤ m) : nb (a + b) ≤ m + 1 := by
 have h2 := (nb_le a m).1 ha
 have h3 := (nb_le b m).1 hb
 refine (nb_le _ _).2 ?_
 rw [pow_succ256]
 generalize 256 ^ m = x at *
 omega
theorem half_neg (x : Int) (h : 0 ≤ x) : Int.tdiv (-x) 2 = -(x / 2) ∧ Int.tmod (-x) 2 = -(x % 2) := by
 rw [Int.neg_tdiv, Int.neg_tmod, Int.tdiv_eq_ediv_of_nonneg h, Int.tmod_eq_emod_of_nonneg h]; exact ⟨rfl, rfl⟩
theorem len_mulQ (n k : Nat) (hn : n ≠ 0) : lenN (n * 2 ^ k) = lenN n + k := by
 have h := lenN_div (n * 2 ^ k) k (by rw [Nat.mul_div_cancel _ (two_pos k)]; exact hn)
 rw [Nat.mul_div_cancel _ (two_pos k)] at h; exact h.symm
theorem fl_nbQ (n d : Nat) (e a : Int) (hn : lenN n ≤ 100000) (he : e - a ≤ 30000) : nb (ratFl n d e a) ≤ 16300 := by
 unfold ratFl
 by_cases h0 : n = 0
 ·subst h0; rw [Nat.zero_mul, Nat.zero_div]; decide
 ·have h1 := len_monoQ _ _ (Nat.div_le_self (n * 2 ^ (e - a).toNat) (d * 2 ^ (a - e).toNat))
  rw [len_mulQ n _ h0] at h1
  unfold nb; omega
theorem wrap_sm (x : Int) (h1 : -9000000 ≤ x) (h2 : x ≤ 9000000) : wrap64 x = x := wrap_id x (by omega) (by omega)
def topR (root : Bool) (E : Int) : Int := if root = true then E / 2 else E
theorem str_fullO (v : Nat) (h : v ≠ 0) : (strB v).toList.isEmpty = false ∧ ¬ (strB v).toList = ([] : List UInt8) := by
 have h1 : ¬ (strB v).toList = ([] : List UInt8) := fun e => h ((strB_empty v).1 e)
 refine ⟨?_, h1⟩
 cases hl : (strB v).toList with
 | nil => exact absurd hl h1
 | cons a l => rfl
theorem str_noneO (v : Nat) (h : v = 0) : (strB v).toList.isEmpty = true ∧ (strB v).toList = ([] : List UInt8) := by
 have h1 := (strB_empty v).2 h
 exact ⟨by rw [h1]; rfl, h1⟩
theorem top_one_den (n : Nat) (hn : n ≠ 0) : topX n 1 = (lenN n : Int) - 1 := by
 have l1 : lenN 1 = 1 := by decide
 have hl := lenN_pos n hn
 unfold topX
 rw [l1, if_pos hl, if_pos (by rw [Nat.one_mul]; exact lenN_ge n hn)]; omega
theorem wrap_smI (x : Int) (h1 : -9000000 ≤ x) (h2 : x ≤ 9000000) : IntKind.i64.wrap x = x := by rw [IntKind.wrap_i64]; omega
def ofA (o : Option Nat) : Value := .tuple #[BV (o.getD 0), .bool o.isSome]
theorem len113_top6 (v : Nat) (h : lenN v ≤ 113) : v < top6 := lt_top_bits v (Nat.lt_of_lt_of_le ((lenN_le v 113).1 h) (by decide))
theorem r8Of_any (f : Nat) (neg : Bool) (n : Nat) (e : Int) (w : World) (hf : f < 4) (hn : n ≠ 0) (hnl : lenN n ≤ 1000) (he : -100000 ≤ e) (he2 : e ≤ 100000) :
  CR_ 213 #[.int .u8 f, exV neg n 1 e] w (ofA (ofR f neg n e)) := by
 have hnb : nb n ≤ 16384 := by unfold nb; omega
 have n1 : nb 1 ≤ 16384 := by decide
 have hl := lenN_pos n hn
 obtain ⟨s1, s2⟩ := str_fullO n hn
 have t1 : (strB 1).toList = ([1] : List UInt8) := (one_list 1).2 rfl
 have t2 : ((strB 1).toList == ([1] : List UInt8)) = true := by rw [t1]; rfl
 obtain ⟨p1, p2, -, -, -, -⟩ := formB f hf
 obtain ⟨-, -, -, k4, k5, k6, -, -⟩ := formK f hf
 have cP := fun w => r7Precision_any f w
 have cX := fun w => r7Emax_any f w
 have cM := fun w => r7Emin_any f w
 have cT := fun w => r6Top_any neg n 1 e w hn hnb n1 (by omega) (by omega)
 rw [top_one_den n hn] at cT
 obtain ⟨T, hT⟩ : ∃ T, (lenN n : Int) - 1 + e = T := ⟨_, rfl⟩
 rw [hT] at cT
 have hT1 : -100000 ≤ T := by omega
 have hT2 : T ≤ 200000 := by omega
 by_cases h1 : (eF f : Int) < T
 ·have e1 : ofR f neg n e = none := by unfold ofR; rw [hT, if_pos h1]
  rw [e1]
  exact r8Of_x f neg (strB n) (strB 1) e w (pF f) (eF f) T 0 (eminI f) p2 p1 (by omega) (by omega) (by omega) (by omega) s1 s2 cP cT t2 t1 cX (decide_eq_true h1)
 by_cases hm : T < eminI f
 ·have ha : atN f T = (eminI f - (pF f : Int) + 1) := by unfold atN; omega
  by_cases h2 : e < (eminI f - (pF f : Int) + 1)
  ·have e1 : ofR f neg n e = none := by unfold ofR; rw [hT, if_neg h1, ha, if_pos h2]
   rw [e1]
   exact r8Of_et f neg (strB n) (strB 1) e w (pF f) (eF f) T 0 (eminI f) p2 p1 (by omega) (by omega) (by omega) (by omega) s1 s2 cP cT t2 t1 cX (decide_eq_false h1) cM (decide_eq_true hm) (decide_eq_true h2)
  have hv : ratFl n 1 e (eminI f - (pF f : Int) + 1) = n * 2 ^ (e - (eminI f - (pF f : Int) + 1)).toNat := by unfold ratFl; rw [Nat.one_mul, show ((eminI f - (pF f : Int) + 1) - e).toNat = 0 by omega, Nat.pow_zero, Nat.div_one]
  have hlv : lenN (n * 2 ^ (e - (eminI f - (pF f : Int) + 1)).toNat) = lenN n + (e - (eminI f - (pF f : Int) + 1)).toNat := lenN_mul_pow n _ hn
  have o : ofR f neg n e = if lenN (n * 2 ^ (e - (eminI f - (pF f : Int) + 1)).toNat) < pF f then some (mkN f neg 0 (n * 2 ^ (e - (eminI f - (pF f : Int) + 1)).toNat)) else some (mkN f neg ((eminI f - (pF f : Int) + 1) - eminI f + pF f).toNat (n * 2 ^ (e - (eminI f - (pF f : Int) + 1)).toNat % 2 ^ (pF f - 1))) := by unfold ofR; rw [hT, if_neg h1, ha, if_neg h2]
  have cF := fun w => r6Floor_any neg n 1 e (eminI f - (pF f : Int) + 1) w hnb n1 (by decide) (by omega) (by omega) (by omega) (by omega) (by omega)
  simp only [hv] at cF
  obtain ⟨v, ev⟩ : ∃ v, n * 2 ^ (e - (eminI f - (pF f : Int) + 1)).toNat = v := ⟨_, rfl⟩
  rw [ev] at hlv o
  simp only [ev] at cF
  have hlp : lenN v ≤ pF f := by omega
  have cW := fun w => r5ToWide_any v w (by unfold nb; omega)
  have cL := fun w => r2Len_any v w (len113_top6 v (by omega))
  by_cases h3 : lenN v < pF f
  ·rw [o, if_pos h3]
   have cB := fun w => r7Build_any f 0 v neg w hf (by omega) ((lenN_le v _).1 (by omega))
   exact r8Of_st f neg (strB n) (strB 1) e w (pF f) (eF f) v (lenN v) 0 (mkN f neg 0 v) 0 _ true false 0 T 0 (eminI f) p2 p1 (by omega) (by omega) (by omega) (by omega) s1 s2 cP cT t2 t1 cX (decide_eq_false h1) cM (decide_eq_true hm) (decide_eq_false h2) cF cW cL (decide_eq_true (by omega)) h3 cB
  ·rw [o, if_neg h3]
   have cK := fun w => r2Mask_any ((pF f : Int) - 1) w
   rw [show clip ((pF f : Int) - 1) = pF f - 1 by unfold clip; omega] at cK
   have cA := fun w => r2And_any v (2 ^ (pF f - 1) - 1) w
   rw [Nat.and_two_pow_sub_one_eq_mod] at cA
   have cB := fun w => r7Build_any f ((eminI f - (pF f : Int) + 1) - eminI f + pF f).toNat (v % 2 ^ (pF f - 1)) neg w hf (by omega) (Nat.mod_lt _ (two_pos _))
   rw [show ((((eminI f - (pF f : Int) + 1) - eminI f + pF f).toNat : Nat) : Int) = (eminI f - (pF f : Int) + 1) - eminI f + (pF f : Int) by omega] at cB
   exact r8Of_nt f neg (strB n) (strB 1) e w (pF f) (eF f) v (lenN v) (2 ^ (pF f - 1) - 1) (mkN f neg ((eminI f - (pF f : Int) + 1) - eminI f + pF f).toNat (v % 2 ^ (pF f - 1))) (v % 2 ^ (pF f - 1)) _ true false 0 T 0 (eminI f) p2 p1 (by omega) (by omega) (by omega) (by omega) s1 s2 cP cT t2 t1 cX (decide_eq_false h1) cM (decide_eq_true hm) (decide_eq_false h2) cF cW cL (wrap_smI _ (by omega) (by omega)) (wrap_smI _ (by omega) (by omega)) (wrap_smI _ (by omega) (by omega)) (decide_eq_false (by omega)) h3 cK cA cB
 ·have ha : atN f T = (T - (pF f : Int) + 1) := by unfold atN; omega
  by_cases h2 : e < (T - (pF f : Int) + 1)
  ·have e1 : ofR f neg n e = none := by unfold ofR; rw [hT, if_neg h1, ha, if_pos h2]
   rw [e1]
   exact r8Of_ef f neg (strB n) (strB 1) e w (pF f) (eF f) T 0 (eminI f) p2 p1 (by omega) (by omega) (by omega) (by omega) s1 s2 cP cT t2 t1 cX (decide_eq_false h1) cM (decide_eq_false hm) (decide_eq_true h2)
  have hv : ratFl n 1 e (T - (pF f : Int) + 1) = n * 2 ^ (e - (T - (pF f : Int) + 1)).toNat := by unfold ratFl; rw [Nat.one_mul, show ((T - (pF f : Int) + 1) - e).toNat = 0 by omega, Nat.pow_zero, Nat.div_one]
  have hlv : lenN (n * 2 ^ (e - (T - (pF f : Int) + 1)).toNat) = lenN n + (e - (T - (pF f : Int) + 1)).toNat := lenN_mul_pow n _ hn
  have o : ofR f neg n e = if lenN (n * 2 ^ (e - (T - (pF f : Int) + 1)).toNat) < pF f then some (mkN f neg 0 (n * 2 ^ (e - (T - (pF f : Int) + 1)).toNat)) else some (mkN f neg ((T - (pF f : Int) + 1) - eminI f + pF f).toNat (n * 2 ^ (e - (T - (pF f : Int) + 1)).toNat % 2 ^ (pF f - 1))) := by unfold ofR; rw [hT, if_neg h1, ha, if_neg h2]
  have cF := fun w => r6Floor_any neg n 1 e (T - (pF f : Int) + 1) w hnb n1 (by decide) (by omega) (by omega) (by omega) (by omega) (by omega)
  simp only [hv] at cF
  obtain ⟨v, ev⟩ : ∃ v, n * 2 ^ (e - (T - (pF f : Int) + 1)).toNat = v := ⟨_, rfl⟩
  rw [ev] at hlv o
  simp only [ev] at cF
  have hlp : lenN v ≤ pF f := by omega
  have cW := fun w => r5ToWide_any v w (by unfold nb; omega)
  have cL := fun w => r2Len_any v w (len113_top6 v (by omega))
  by_cases h3 : lenN v < pF f
  ·rw [o, if_pos h3]
   have cB := fun w => r7Build_any f 0 v neg w hf (by omega) ((lenN_le v _).1 (by omega))
   exact r8Of_sf f neg (strB n) (strB 1) e w (pF f) (eF f) v (lenN v) 0 (mkN f neg 0 v) 0 _ true false 0 T 0 (eminI f) p2 p1 (by omega) (by omega) (by omega) (by omega) s1 s2 cP cT t2 t1 cX (decide_eq_false h1) cM (decide_eq_false hm) (decide_eq_false h2) cF cW cL (decide_eq_true (by omega)) h3 cB
  ·rw [o, if_neg h3]
   have cK := fun w => r2Mask_any ((pF f : Int) - 1) w
   rw [show clip ((pF f : Int) - 1) = pF f - 1 by unfold clip; omega] at cK
   have cA := fun w => r2And_any v (2 ^ (pF f - 1) - 1) w
   rw [Nat.and_two_pow_sub_one_eq_mod] at cA
   have cB := fun w => r7Build_any f ((T - (pF f : Int) + 1) - eminI f + pF f).toNat (v % 2 ^ (pF f - 1)) neg w hf (by omega) (Nat.mod_lt _ (two_pos _))
   rw [show ((((T - (pF f : Int) + 1) - eminI f + pF f).toNat : Nat) : Int) = (T - (pF f : Int) + 1) - eminI f + (pF f : Int) by omega] at cB
   exact r8Of_nf f neg (strB n) (strB 1) e w (pF f) (eF f) v (lenN v) (2 ^ (pF f - 1) - 1) (mkN f neg ((T - (pF f : Int) + 1) - eminI f + pF f).toNat (v % 2 ^ (pF f - 1))) (v % 2 ^ (pF f - 1)) _ true false 0 T 0 (eminI f) p2 p1 (by omega) (by omega) (by omega) (by omega) s1 s2 cP cT t2 t1 cX (decide_eq_false h1) cM (decide_eq_false hm) (decide_eq_false h2) cF cW cL (wrap_smI _ (by omega) (by omega)) (wrap_smI _ (by omega) (by omega)) (wrap_smI _ (by omega) (by omega)) (decide_eq_false (by omega)) h3 cK cA cB
theorem r9Over_0t (f b : Nat) (w : World) (cI : CK_ 86 #[.int .u8 f, .bool true] (BV b)) :
  CR_ 209 #[.int .u8 f, .int .u8 0, .bool true] w (BV b) := by
 have H := Own.start w
 go_enter Tryz.func209, Tryz.ntmps209
 exact walk3
theorem r9Over_0f (f b : Nat) (w : World) (cI : CK_ 86 #[.int .u8 f, .bool false] (BV b)) :
  CR_ 209 #[.int .u8 f, .int .u8 0, .bool false] w (BV b) := by
 have H := Own.start w
 go_enter Tryz.func209, Tryz.ntmps209
 exact walk3
theorem r9Over_1t (f b : Nat) (w : World) (cG : CK_ 226 #[.int .u8 f, .bool true] (BV b)) :
  CR_ 209 #[.int .u8 f, .int .u8 1, .bool true] w (BV b) := by
 have H := Own.start w
 go_enter Tryz.func209, Tryz.ntmps209
 exact walk3
theorem r9Over_1f (f b : Nat) (w : World) (cG : CK_ 226 #[.int .u8 f, .bool false] (BV b)) :
  CR_ 209 #[.int .u8 f, .int .u8 1, .bool false] w (BV b) := by
 have H := Own.start w
 go_enter Tryz.func209, Tryz.ntmps209
 exact walk3
theorem r9Over_2t (f b : Nat) (w : World) (cI : CK_ 86 #[.int .u8 f, .bool true] (BV b)) :
  CR_ 209 #[.int .u8 f, .int .u8 2, .bool true] w (BV b) := by
 have H := Own.start w
 go_enter Tryz.func209, Tryz.ntmps209
 exact walk3
theorem r9Over_2f (f b : Nat) (w : World) (cG : CK_ 226 #[.int .u8 f, .bool false] (BV b)) :
  CR_ 209 #[.int .u8 f, .int .u8 2, .bool false] w (BV b) := by
 have H := Own.start w
 go_enter Tryz.func209, Tryz.ntmps209
 exact walk3
theorem r9Over_3t (f b : Nat) (w : World) (cG : CK_ 226 #[.int .u8 f, .bool true] (BV b)) :
  CR_ 209 #[.int .u8 f, .int .u8 3, .bool true] w (BV b) := by
 have H := Own.start w
 go_enter Tryz.func209, Tryz.ntmps209
 exact walk3
theorem r9Over_3f (f b : Nat) (w : World) (cI : CK_ 86 #[.int .u8 f, .bool false] (BV b)) :
  CR_ 209 #[.int .u8 f, .int .u8 3, .bool false] w (BV b) := by
 have H := Own.start w
 go_enter Tryz.func209, Tryz.ntmps209
 exact walk3
theorem r9Over_4t (f b : Nat) (w : World) (cI : CK_ 86 #[.int .u8 f, .bool true] (BV b)) :
  CR_ 209 #[.int .u8 f, .int .u8 4, .bool true] w (BV b) := by
 have H := Own.start w
 go_enter Tryz.func209, Tryz.ntmps209
 exact walk3
theorem r9Over_4f (f b : Nat) (w : World) (cI : CK_ 86 #[.int .u8 f, .bool false] (BV b)) :
  CR_ 209 #[.int .u8 f, .int .u8 4, .bool false] w (BV b) := by
 have H := Own.start w
 go_enter Tryz.func209, Tryz.ntmps209
 exact walk3
theorem r9Over_any (f m : Nat) (neg : Bool) (w : World) (hf : f < 4) (hm : m < 5) :
  CR_ 209 #[.int .u8 f, .int .u8 m, .bool neg] w (BV (overN f m neg)) := by
 have cI := fun w => r7Inf_any f neg w hf
 have cG := fun w => r7Greatest_any f neg w hf
 have h : m = 0 ∨ m = 1 ∨ m = 2 ∨ m = 3 ∨ m = 4 := by omega
 obtain rfl | rfl | rfl | rfl | rfl := h <;> cases neg
 ·exact r9Over_0f f _ w cI
 ·exact r9Over_0t f _ w cI
 ·exact r9Over_1f f _ w cG
 ·exact r9Over_1t f _ w cG
 ·exact r9Over_2f f _ w cG
 ·exact r9Over_2t f _ w cI
 ·exact r9Over_3f f _ w cI
 ·exact r9Over_3t f _ w cG
 ·exact r9Over_4f f _ w cI
 ·exact r9Over_4t f _ w cI
theorem r9tiny_a (f m p : Nat) (neg root : Bool) (nn dd : ByteArray) (ee te mn : Int) (w : World) (hp : p ≤ 113) (he1 : -2000000 ≤ te) (he2 : te ≤ 2000000) (hm1 : -20000 ≤ mn) (hm2 : mn ≤ 20000) (cT : CK_ 208 #[.agg (exC neg nn dd ee), .bool root] (.int .i64 te)) (cM : CK_ 210 #[.int .u8 f] (.int .i64 mn)) (q1 : decide (mn ≤ te) = true) :
  CR_ 214 #[.int .u8 f, .int .u8 m, .agg (exC neg nn dd ee), .bool root] w (.bool false) := by
 have H := Own.start w
 go_enter Tryz.func214, Tryz.ntmps214
 exact walk3
theorem r9tiny_b (f m p : Nat) (neg root : Bool) (nn dd : ByteArray) (ee te mn : Int) (w : World) (hp : p ≤ 113) (he1 : -2000000 ≤ te) (he2 : te ≤ 2000000) (hm1 : -20000 ≤ mn) (hm2 : mn ≤ 20000) (cT : CK_ 208 #[.agg (exC neg nn dd ee), .bool root] (.int .i64 te)) (cM : CK_ 210 #[.int .u8 f] (.int .i64 mn)) (q1 : decide (mn ≤ te) = false) (q2 : decide (te < mn - 1) = true) :
  CR_ 214 #[.int .u8 f, .int .u8 m, .agg (exC neg nn dd ee), .bool root] w (.bool true) := by
 have H := Own.start w
 go_enter Tryz.func214, Tryz.ntmps214
 exact walk3
theorem r9tiny_c (f m p l : Nat) (s r : ByteArray) (a h : Int) (x : Bool) (neg root : Bool) (nn dd : ByteArray) (ee te mn : Int) (w : World) (hp : p ≤ 113) (he1 : -2000000 ≤ te) (he2 : te ≤ 2000000) (hm1 : -20000 ≤ mn) (hm2 : mn ≤ 20000) (cT : CK_ 208 #[.agg (exC neg nn dd ee), .bool root] (.int .i64 te)) (cM : CK_ 210 #[.int .u8 f] (.int .i64 mn)) (q1 : decide (mn ≤ te) = false) (q2 : decide (te < mn - 1) = false) (w1 : IntKind.i64.wrap (te - (p : Int)) = te - (p : Int)) (w2 : IntKind.i64.wrap (te - (p : Int) + 1) = te - (p : Int) + 1) (cP : CK_ 166 #[.int .u8 f] (.int .i64 (p : Nat))) (cF : CK_ 211 #[.agg (exC neg nn dd ee), .bool root, .int .i64 (te - (p : Int) + 1)] (.agg (fdC s a h x))) (cK : CK_ 212 #[.int .u8 m, .bool neg, .agg (fdC s a h x)] (.string r)) (cL : CK_ 203 #[.string r] (.int .i64 (l : Nat)))  :
  CR_ 214 #[.int .u8 f, .int .u8 m, .agg (exC neg nn dd ee), .bool root] w (.bool (decide (l ≤ p))) := by
 have H := Own.start w
 go_enter Tryz.func214, Tryz.ntmps214
 exact walk3
open Go.RowKit Go.Proofs.YtgmhmpflmgfcdaaGreatDoorW.PrintWords
def fdAt : Array (Nat × Nat) := #[(0, 1), (1, 1), (2, 1), (3, 1)]
theorem places_fd (w : World) : ∃ fs, Tryz.prog.underlying 196 = some (.struct fs) ∧ (fs.mapM fun f => do pure (f.offset, ← sizeOf f.type) : Sem (Array (Nat × Nat))).run Tryz.prog w = .ok fdAt w := by
 refine ⟨_, Tryz.underlying196, ?_⟩
 unfold fdAt
 go_simp
theorem fd_s1 (m : ByteArray) (a h : Int) (x : Bool) (b : Int) (rest : List (Nat × Value)) : Instr.fill (fdAt[·]?) (fdC m a h x) ((1, .int .i64 b) :: rest) = Instr.fill (fdAt[·]?) (fdC m b h x) rest := fill_step _ _ 1 1 1 _ _ rfl rfl (show 1 + 1 ≤ 4 by decide)
theorem fd_s2 (m : ByteArray) (a h : Int) (x : Bool) (b : Int) (rest : List (Nat × Value)) : Instr.fill (fdAt[·]?) (fdC m a h x) ((2, .int .i64 b) :: rest) = Instr.fill (fdAt[·]?) (fdC m a b x) rest := fill_step _ _ 2 2 1 _ _ rfl rfl (show 2 + 1 ≤ 4 by decide)
theorem fd_mk (a h : Int) (w : World) : (Instr.build 196 #[(1, .int .i64 a), (2, .int .i64 h)]).run Tryz.prog w = .ok (.agg (fdC ⟨#[]⟩ a h false)) w := by
 obtain ⟨fs, hu, hp⟩ := places_fd w
 exact run_build rFd hu hp _ _ (by show Instr.fill _ _ [_, _] = _; rw [fd_s1, fd_s2]; rfl)
theorem set_fd0 (m : ByteArray) (a h : Int) (x : Bool) (m' : ByteArray) : setRow (fdC m a h x) 0 (#[.string m'] : Array Value).toList = fdC m' a h x := rfl
theorem set_fd2 (m : ByteArray) (a h : Int) (x : Bool) (h' : Int) : setRow (fdC m a h x) 2 (#[.int .i64 h'] : Array Value).toList = fdC m a h' x := rfl
theorem set_fd3 (m : ByteArray) (a h : Int) (x x' : Bool) : setRow (fdC m a h x) 3 (#[.bool x'] : Array Value).toList = fdC m a h x' := rfl
theorem get_fd0 (m : ByteArray) (a h : Int) (x : Bool) : (fdC m a h x)[0]? = some (.string m) := rfl
theorem get_fd2 (m : ByteArray) (a h : Int) (x : Bool) : (fdC m a h x)[2]? = some (.int .i64 h) := rfl
theorem r9f_E (neg : Bool) (n d m fine n1 r1 n2 r2 : ByteArray) (ee a : Int) (w : World) (ha1 : -1000000 ≤ a) (ha2 : a ≤ 1000000) (cF : CK_ 130 #[.agg (exC neg n d ee), .int .i64 a] (.tuple #[.string m, .bool true, .int .i64 0]))  :
  CR_ 211 #[.agg (exC neg n d ee), .bool false, .int .i64 a] w (.agg (fdC m a (-1) true)) := by
 have H := Own.start w
 go_enter Tryz.func211, Tryz.ntmps211
 exact walk2
theorem r9f_L (neg : Bool) (n d m fine n1 r1 n2 r2 : ByteArray) (ee a : Int) (w : World) (ha1 : -1000000 ≤ a) (ha2 : a ≤ 1000000) (cF : CK_ 130 #[.agg (exC neg n d ee), .int .i64 a] (.tuple #[.string m, .bool false, .int .i64 0])) (x : Bool) (cG : CK_ 130 #[.agg (exC neg n d ee), .int .i64 (a - 1)] (.tuple #[.string fine, .bool x, .int .i64 0])) (cl : CK_ 227 #[.string fine] (.bool false))  :
  CR_ 211 #[.agg (exC neg n d ee), .bool false, .int .i64 a] w (.agg (fdC m a (-1) false)) := by
 have H := Own.start w
 go_enter Tryz.func211, Tryz.ntmps211
 exact walk2
theorem r9f_H0 (neg : Bool) (n d m fine n1 r1 n2 r2 : ByteArray) (ee a : Int) (w : World) (ha1 : -1000000 ≤ a) (ha2 : a ≤ 1000000) (cF : CK_ 130 #[.agg (exC neg n d ee), .int .i64 a] (.tuple #[.string m, .bool false, .int .i64 0])) (cG : CK_ 130 #[.agg (exC neg n d ee), .int .i64 (a - 1)] (.tuple #[.string fine, .bool true, .int .i64 0])) (cl : CK_ 227 #[.string fine] (.bool true))  :
  CR_ 211 #[.agg (exC neg n d ee), .bool false, .int .i64 a] w (.agg (fdC m a 0 false)) := by
 have H := Own.start w
 go_enter Tryz.func211, Tryz.ntmps211
 exact walk2
theorem r9f_H1 (neg : Bool) (n d m fine n1 r1 n2 r2 : ByteArray) (ee a : Int) (w : World) (ha1 : -1000000 ≤ a) (ha2 : a ≤ 1000000) (cF : CK_ 130 #[.agg (exC neg n d ee), .int .i64 a] (.tuple #[.string m, .bool false, .int .i64 0])) (cG : CK_ 130 #[.agg (exC neg n d ee), .int .i64 (a - 1)] (.tuple #[.string fine, .bool false, .int .i64 0])) (cl : CK_ 227 #[.string fine] (.bool true))  :
  CR_ 211 #[.agg (exC neg n d ee), .bool false, .int .i64 a] w (.agg (fdC m a 1 false)) := by
 have H := Own.start w
 go_enter Tryz.func211, Tryz.ntmps211
 exact walk2
theorem r9up_x (m : Nat) (h : Int) (s : ByteArray) (a : Int) (neg : Bool) (w : World)  :
  CR_ 229 #[.int .u8 m, .bool neg, .agg (fdC s a h true)] w (.bool false) := by
 have H := Own.start w
 go_enter Tryz.func229, Tryz.ntmps229
 exact walk2
theorem r9up_1 (h : Int) (s : ByteArray) (a : Int) (neg : Bool) (w : World)  :
  CR_ 229 #[.int .u8 1, .bool neg, .agg (fdC s a h false)] w (.bool false) := by
 have H := Own.start w
 go_enter Tryz.func229, Tryz.ntmps229
 exact walk2
theorem r9up_2 (h : Int) (s : ByteArray) (a : Int) (neg : Bool) (w : World)  :
  CR_ 229 #[.int .u8 2, .bool neg, .agg (fdC s a h false)] w (.bool neg) := by
 have H := Own.start w
 go_enter Tryz.func229, Tryz.ntmps229
 exact walk2
theorem r9up_3 (h : Int) (s : ByteArray) (a : Int) (neg : Bool) (w : World)  :
  CR_ 229 #[.int .u8 3, .bool neg, .agg (fdC s a h false)] w (.bool (!neg)) := by
 have H := Own.start w
 go_enter Tryz.func229, Tryz.ntmps229
 exact walk2
theorem r9up_0n (s : ByteArray) (a : Int) (neg : Bool) (w : World)  :
  CR_ 229 #[.int .u8 0, .bool neg, .agg (fdC s a (-1) false)] w (.bool false) := by
 have H := Own.start w
 go_enter Tryz.func229, Tryz.ntmps229
 exact walk2
theorem r9up_0z (s : ByteArray) (a : Int) (neg : Bool) (w : World) (l : Bool) (cl : CK_ 227 #[.string s] (.bool l))  :
  CR_ 229 #[.int .u8 0, .bool neg, .agg (fdC s a 0 false)] w (.bool l) := by
 have H := Own.start w
 go_enter Tryz.func229, Tryz.ntmps229
 exact walk2
theorem r9up_0p (s : ByteArray) (a : Int) (neg : Bool) (w : World)  :
  CR_ 229 #[.int .u8 0, .bool neg, .agg (fdC s a 1 false)] w (.bool true) := by
 have H := Own.start w
 go_enter Tryz.func229, Tryz.ntmps229
 exact walk2
theorem r9up_4n (s : ByteArray) (a : Int) (neg : Bool) (w : World)  :
  CR_ 229 #[.int .u8 4, .bool neg, .agg (fdC s a (-1) false)] w (.bool false) := by
 have H := Own.start w
 go_enter Tryz.func229, Tryz.ntmps229
 exact walk2
theorem r9up_4z (s : ByteArray) (a : Int) (neg : Bool) (w : World)  :
  CR_ 229 #[.int .u8 4, .bool neg, .agg (fdC s a 0 false)] w (.bool true) := by
 have H := Own.start w
 go_enter Tryz.func229, Tryz.ntmps229
 exact walk2
theorem r9up_4p (s : ByteArray) (a : Int) (neg : Bool) (w : World)  :
  CR_ 229 #[.int .u8 4, .bool neg, .agg (fdC s a 1 false)] w (.bool true) := by
 have H := Own.start w
 go_enter Tryz.func229, Tryz.ntmps229
 exact walk2
theorem r9taken_n (m : Nat) (neg x : Bool) (s r : ByteArray) (a h : Int) (w : World) (cU : CK_ 229 #[.int .u8 m, .bool neg, .agg (fdC s a h x)] (.bool false)) :
  CR_ 212 #[.int .u8 m, .bool neg, .agg (fdC s a h x)] w (.string s) := by
 have H := Own.start w
 go_enter Tryz.func212, Tryz.ntmps212
 exact walk4
theorem r9taken_y (m : Nat) (neg x : Bool) (s r : ByteArray) (a h : Int) (w : World) (cU : CK_ 229 #[.int .u8 m, .bool neg, .agg (fdC s a h x)] (.bool true)) (cA : CK_ 133 #[.string s, .string ⟨#[1]⟩] (.tuple #[.string r, .int .i64 0])) :
  CR_ 212 #[.int .u8 m, .bool neg, .agg (fdC s a h x)] w (.string r) := by
 have H := Own.start w
 go_enter Tryz.func212, Tryz.ntmps212
 exact walk4
theorem r9top_f (neg : Bool) (n d : ByteArray) (ee T er : Int) (w : World) (h1 : -2000000 ≤ T) (h2 : T ≤ 2000000) (cT : CK_ 197 #[.agg (exC neg n d ee)] (.tuple #[.int .i64 T, .int .i64 er]))  :
  CR_ 208 #[.agg (exC neg n d ee), .bool false] w (.int .i64 T) := by
 have H := Own.start w
 go_enter Tryz.func208, Tryz.ntmps208
 exact walk2
theorem r9top_p (neg : Bool) (n d : ByteArray) (ee T er : Int) (w : World) (h1 : -2000000 ≤ T) (h2 : T ≤ 2000000) (cT : CK_ 197 #[.agg (exC neg n d ee)] (.tuple #[.int .i64 T, .int .i64 er])) (q0 : decide (T < 0) = false) (q1 : 0 ≤ T)  :
  CR_ 208 #[.agg (exC neg n d ee), .bool true] w (.int .i64 (T / 2)) := by
 have H := Own.start w
 go_enter Tryz.func208, Tryz.ntmps208
 exact walk2
theorem r9top_o (neg : Bool) (n d : ByteArray) (ee T er : Int) (w : World) (h1 : -2000000 ≤ T) (h2 : T ≤ 2000000) (cT : CK_ 197 #[.agg (exC neg n d ee)] (.tuple #[.int .i64 T, .int .i64 er])) (q0 : decide (T < 0) = true) (q1 : (Int.tmod T 2 == 0) = false) (q2 : ¬ (Int.tmod T 2 = 0))  :
  CR_ 208 #[.agg (exC neg n d ee), .bool true] w (.int .i64 (wrap64 (Int.tdiv T 2 - 1))) := by
 have H := Own.start w
 go_enter Tryz.func208, Tryz.ntmps208
 exact walk2
theorem r9top_e (neg : Bool) (n d : ByteArray) (ee T er : Int) (w : World) (h1 : -2000000 ≤ T) (h2 : T ≤ 2000000) (cT : CK_ 197 #[.agg (exC neg n d ee)] (.tuple #[.int .i64 T, .int .i64 er])) (q0 : decide (T < 0) = true) (q1 : (Int.tmod T 2 == 0) = true) (q2 : Int.tmod T 2 = 0)  :
  CR_ 208 #[.agg (exC neg n d ee), .bool true] w (.int .i64 (Int.tdiv T 2)) := by
 have H := Own.start w
 go_enter Tryz.func208, Tryz.ntmps208
 exact walk2
theorem r9Fault_w (f m : Nat) (neg : Bool) (n d : ByteArray) (ee : Int) (w : World) (z1 : decide (8192 < (n.size : Int)) = false) (z2 : decide (8192 < (d.size : Int)) = false) (cR : CK_ 62 #[.int .u8 f] (.bool true)) (cM : CK_ 49 #[.int .u8 m] (.bool true)) (cY : CK_ 207 #[.agg (exC neg n d ee)] (.bool true))  :
  CR_ 151 #[.int .u8 f, .int .u8 m, .agg (exC neg n d ee)] w (.int .i64 0) := by
 have H := Own.start w
 go_enter Tryz.func151, Tryz.ntmps151
 exact walk4
theorem r9Round_w (f m b : Nat) (fl : Int) (n d : ByteArray) (ee : Int) (neg : Bool) (w : World) (cF : CK_ 151 #[.int .u8 f, .int .u8 m, .agg (exC neg n d ee)] (.int .i64 0)) (f_n : n.toList.isEmpty = false) (f_n' : ¬ (n.toList = [])) (cD : CK_ 152 #[.int .u8 f, .int .u8 m, .agg (exC neg n d ee), .bool false] (.tuple #[BV b, .int .u8 fl])) :
  CR_ 64 #[.int .u8 f, .int .u8 m, .agg (exC neg n d ee)] w (.tuple #[BV b, .int .u8 fl, .int .i64 0]) := by
 have H := Own.start w
 go_enter Tryz.func64, Tryz.ntmps64
 exact walk4
def srcX (root : Bool) (n d : Nat) (e : Int) (hd : 0 < d) : Src := if root = true then rootS (ratS n d e hd) else ratS n d e hd
theorem isq_self (n : Nat) : isq n ≤ n := by
 have := isq_le n
 by_cases hz : isq n = 0
 ·omega
 ·exact Nat.le_trans (Nat.le_mul_of_pos_left _ (by omega)) this
theorem src_nb (root : Bool) (n d : Nat) (e a : Int) (hd : 0 < d) (hl : lenN n ≤ 100000) (h1 : root = false → e - a ≤ 29990) (h2 : root = true → e - 2 * a ≤ 29990) : nb ((srcX root n d e hd).fl a) ≤ 16300 := by
 cases root
 ·exact fl_nbQ n d e a hl (by have := h1 rfl; omega)
 ·have b := fl_nbQ n d e (2 * a) hl (by have := h2 rfl; omega)
  exact Nat.le_trans (nb_monoQ _ _ (isq_self (ratFl n d e (2 * a)))) b
theorem grid_nb (S : Src) (m : Nat) (neg : Bool) (a : Int) (h : nb (S.fl a) ≤ 16300) : nb (gridR S m neg a).1 ≤ 16301 := by
 unfold gridR
 cases upB m neg (decide (S.fl a % 2 = 1)) (halfR S a) (S.ex a)
 ·show nb (S.fl a + 0) ≤ 16301
  rw [Nat.add_zero]; omega
 ·exact nb_addQ _ _ _ h (by decide)
theorem r9last_any (v : Nat) (w : World) (hv : nb v ≤ 100000) : CR_ 227 #[.string (strB v)] w (.bool (decide (v % 2 = 1))) :=
 (z09_last.calls _ _ w (last_strB v hv)).mono fun _ _ h => ⟨h.1, h.2.below⟩
theorem tdiv_half (T : Int) (h : T < 0) : (Int.tmod T 2 = 0 → Int.tdiv T 2 = T / 2) ∧ (¬ Int.tmod T 2 = 0 → Int.tdiv T 2 - 1 = T / 2) := by
 obtain ⟨x, rfl⟩ : ∃ x, T = -x := ⟨-T, by omega⟩
 obtain ⟨t1, t2⟩ := half_neg x (by omega)
 rw [t1, t2]; omega
theorem r9top_any (neg root : Bool) (n d : Nat) (e : Int) (w : World) (h0 : n ≠ 0) (hn : nb n ≤ 16384) (hd : nb d ≤ 16384) (he : -1048576 ≤ e) (he2 : e ≤ 1048576) :
  CR_ 208 #[exV neg n d e, .bool root] w (.int .i64 (topR root (topX n d + e))) := by
 have l1 := len_nb n hn
 have l2 := len_nb d hd
 have cT := fun w => r6Top_any neg n d e w h0 hn hd he he2
 have ht : -2000000 ≤ topX n d + e ∧ topX n d + e ≤ 2000000 := by unfold topX; split <;> omega
 generalize topX n d + e = T at *
 cases root
 ·exact r9top_f neg _ _ e T 0 w ht.1 ht.2 cT
 show Calls _ _ _ _ fun e' w' => e' = .returned (.int .i64 (T / 2)) ∧ _
 by_cases h1 : T < 0
 ·obtain ⟨k1, k2⟩ := tdiv_half T h1
  by_cases h2 : Int.tmod T 2 = 0
  ·rw [← k1 h2]
   exact r9top_e neg _ _ e T 0 w ht.1 ht.2 cT (decide_eq_true h1) (by rw [h2]; rfl) h2
  ·have k := r9top_o neg _ _ e T 0 w ht.1 ht.2 cT (decide_eq_true h1) (by rw [beq_eq_false_iff_ne]; exact h2) h2
   rw [wrap_sm _ (by have := k2 h2; omega) (by have := k2 h2; omega), k2 h2] at k
   exact k
 ·exact r9top_p neg _ _ e T 0 w ht.1 ht.2 cT (decide_eq_false h1) (by omega)
theorem half_three (S : Src) (a : Int) : halfR S a = -1 ∨ halfR S a = 0 ∨ halfR S a = 1 := by
 unfold halfR; repeat' split
 all_goals omega
theorem r9find_any (neg root : Bool) (n d : Nat) (e a : Int) (w : World) (hn : nb n ≤ 16384) (hd : nb d ≤ 16384) (hd0 : 0 < d) (he : -1000000 ≤ e) (he2 : e ≤ 1000000) (ha : -900000 ≤ a) (ha2 : a ≤ 900000) (hl : lenN n ≤ 100000) (h1 : root = false → e - a ≤ 29990) (h2 : root = true → e - 2 * a ≤ 29990) (hrt : root = false := by first | assumption | rfl) :
  CR_ 211 #[exV neg n d e, .bool root, .int .i64 a] w (.agg (fdC (strB ((srcX root n d e hd0).fl a)) a (halfR (srcX root n d e hd0) a) ((srcX root n d e hd0).ex a))) := by
 cases root
 ·have h1' := h1 rfl
  have cF := fun w => r6Floor_any neg n d e a w hn hd (by omega) (by omega) (by omega) (by omega) (by omega) (by omega)
  have cG := fun w => r6Floor_any neg n d e (a - 1) w hn hd (by omega) (by omega) (by omega) (by omega) (by omega) (by omega)
  have cl := fun w => r9last_any (ratFl n d e (a - 1)) w (Nat.le_trans (fl_nbQ n d e (a - 1) hl (by omega)) (by decide))
  unfold halfR
  show Calls _ _ _ _ fun e' w' => e' = .returned (.agg (fdC (strB (ratFl n d e a)) a (if ratEx n d e a = true then -1 else if ratFl n d e (a - 1) % 2 = 1 then (if ratEx n d e (a - 1) = true then 0 else 1) else -1) (ratEx n d e a))) ∧ _
  cases hx : ratEx n d e a
  ·simp only [hx] at cF
   rw [if_neg (by decide)]
   by_cases ho : ratFl n d e (a - 1) % 2 = 1
   ·rw [if_pos ho]
    rw [decide_eq_true ho] at cl
    cases hy : ratEx n d e (a - 1)
    ·simp only [hy] at cG
     exact r9f_H1 neg _ _ _ _ ⟨#[]⟩ ⟨#[]⟩ ⟨#[]⟩ ⟨#[]⟩ e a w (by omega) (by omega) cF cG cl
    ·simp only [hy] at cG
     exact r9f_H0 neg _ _ _ _ ⟨#[]⟩ ⟨#[]⟩ ⟨#[]⟩ ⟨#[]⟩ e a w (by omega) (by omega) cF cG cl
   ·rw [if_neg ho]
    rw [decide_eq_false ho] at cl
    exact r9f_L neg _ _ _ _ ⟨#[]⟩ ⟨#[]⟩ ⟨#[]⟩ ⟨#[]⟩ e a w (by omega) (by omega) cF _ cG cl
  ·simp only [hx] at cF
   rw [if_pos rfl]
   exact r9f_E neg _ _ _ ⟨#[]⟩ ⟨#[]⟩ ⟨#[]⟩ ⟨#[]⟩ ⟨#[]⟩ e a w (by omega) (by omega) cF
 ·exact absurd hrt (by decide)
theorem r9up_any (m : Nat) (neg x : Bool) (M : Nat) (a h : Int) (w : World) (hm : m < 5) (hh : h = -1 ∨ h = 0 ∨ h = 1) (hM : nb M ≤ 100000) :
  CR_ 229 #[.int .u8 m, .bool neg, .agg (fdC (strB M) a h x)] w (.bool (upB m neg (decide (M % 2 = 1)) h x)) := by
 cases x
 ·have hm5 : m = 0 ∨ m = 1 ∨ m = 2 ∨ m = 3 ∨ m = 4 := by omega
  obtain rfl | rfl | rfl | rfl | rfl := hm5
  ·obtain rfl | rfl | rfl := hh
   ·exact r9up_0n _ a neg w
   ·have := r9up_0z _ a neg w _ (fun w => r9last_any M w hM)
    rw [show upB 0 neg (decide (M % 2 = 1)) 0 false = decide (M % 2 = 1) by unfold upB; simp]
    exact this
   ·exact r9up_0p _ a neg w
  ·exact r9up_1 h _ a neg w
  ·exact r9up_2 h _ a neg w
  ·exact r9up_3 h _ a neg w
  ·obtain rfl | rfl | rfl := hh
   ·exact r9up_4n _ a neg w
   ·exact r9up_4z _ a neg w
   ·exact r9up_4p _ a neg w
 ·exact r9up_x m h _ a neg w
theorem r9taken_any (S : Src) (m : Nat) (neg : Bool) (a : Int) (w : World) (hm : m < 5) (h : nb (S.fl a) ≤ 16300) :
  CR_ 212 #[.int .u8 m, .bool neg, .agg (fdC (strB (S.fl a)) a (halfR S a) (S.ex a))] w (.string (strB (gridR S m neg a).1)) := by
 have cU := fun w => r9up_any m neg (S.ex a) (S.fl a) a (halfR S a) w hm (half_three S a) (by omega)
 unfold gridR
 cases hu : upB m neg (decide (S.fl a % 2 = 1)) (halfR S a) (S.ex a)
 ·simp only [hu] at cU
  exact r9taken_n m neg _ _ ⟨#[]⟩ a _ w cU
 ·simp only [hu] at cU
  have cA := fun w => r5Add_any (S.fl a) 1 w h (by decide)
  rw [strB_one] at cA
  exact r9taken_y m neg _ _ _ a _ w cU cA
theorem topX_bound (n d : Nat) : -(lenN d : Int) - 1 ≤ topX n d ∧ topX n d ≤ lenN n := by unfold topX; split <;> split <;> omega
theorem r9tiny_any (f m : Nat) (neg root : Bool) (n d : Nat) (e : Int) (w : World) (hf : f < 4) (hm : m < 5) (h0 : n ≠ 0) (hn : lenN n ≤ 100000) (hd : lenN d ≤ 20000) (hd0 : 0 < d) (he : -200000 ≤ e) (he2 : e ≤ 200000) (hrt : root = false := by first | assumption | rfl) :
  CR_ 214 #[.int .u8 f, .int .u8 m, exV neg n d e, .bool root] w (.bool (tinyR (srcX root n d e hd0) f m neg (topR root (topX n d + e)))) := by
 have hnb : nb n ≤ 16384 := by unfold nb; omega
 have hdb : nb d ≤ 16384 := by unfold nb; omega
 obtain ⟨p1, p2, -, -, -, -⟩ := formB f hf
 obtain ⟨-, -, -, k4, k5, k6, -, -⟩ := formK f hf
 have cT := fun w => r9top_any neg root n d e w h0 hnb hdb (by omega) (by omega)
 have cM := fun w => r7Emin_any f w
 have cP := fun w => r7Precision_any f w
 have ht := topX_bound n d
 obtain ⟨T, hT⟩ : ∃ T, topR root (topX n d + e) = T := ⟨_, rfl⟩
 rw [hT] at cT ⊢
 have hTb : -2000000 ≤ T ∧ T ≤ 2000000 := by rw [← hT]; unfold topR; split <;> omega
 unfold tinyR
 by_cases h1 : eminI f ≤ T
 ·rw [if_pos h1]
  exact r9tiny_a f m (pF f) neg root _ _ e T (eminI f) w p2 hTb.1 hTb.2 (by omega) (by omega) cT cM (decide_eq_true h1)
 by_cases h2 : T < eminI f - 1
 ·rw [if_neg h1, if_pos h2]
  exact r9tiny_b f m (pF f) neg root _ _ e T (eminI f) w p2 hTb.1 hTb.2 (by omega) (by omega) cT cM (decide_eq_false h1) (decide_eq_true h2)
 rw [if_neg h1, if_neg h2]
 have g1 : root = false → e - (T - (pF f : Int) + 1) ≤ 29990 := by
  rintro rfl
  have hT' : topX n d + e = T := hT
  omega
 have g2 : root = true → e - 2 * (T - (pF f : Int) + 1) ≤ 29990 := by
  rintro rfl
  have hT' : (topX n d + e) / 2 = T := hT
  omega
 have hS := src_nb root n d e (T - (pF f : Int) + 1) hd0 hn g1 g2
 have cF := fun w => r9find_any neg root n d e (T - (pF f : Int) + 1) w hnb hdb hd0 (by omega) (by omega) (by omega) (by omega) hn g1 g2
 have cK := fun w => r9taken_any (srcX root n d e hd0) m neg (T - (pF f : Int) + 1) w hm hS
 have cL := fun w => r5Len_any _ w (Nat.le_trans (grid_nb _ m neg _ hS) (by decide))
 exact r9tiny_c f m (pF f) _ _ _ _ _ _ neg root _ _ e T (eminI f) w p2 hTb.1 hTb.2 (by omega) (by omega) cT cM (decide_eq_false h1) (decide_eq_false h2) (wrap_smI _ (by omega) (by omega)) (wrap_smI _ (by omega) (by omega)) cP cF cK cL
end Go.Proofs.YtgmhmpflmgfcdaaGreatDoor
