/- Part 38 of what is proved: Bq, Ofj. -/
import Derived.Test.YtecdpjhifmlahaaGreatDoorHw7
import Derived.Test.YtecdpjhifmlahaaGreatDoorHw36
import Derived.Test.YtecdpjhifmlahaaGreatDoorHw37
set_option linter.unusedSimpArgs false
set_option linter.unusedVariables false
set_option linter.unnecessarySimpa false
set_option maxRecDepth 100000
set_option maxHeartbeats 1600000
namespace Go.Proofs.YtecdpjhifmlahaaGreatDoor
open Go.RowKit Go.Proofs.YtecdpjhifmlahaaGreatDoorW.PrintWords Go.Proofs.YtecdpjhifmlahaaGreatDoor.PDivQuotients
theorem and1_u8 : ∀ b : Nat, b < 256 → (Go.bits .and .u8 (b : Int) 1 == 1) = decide (b % 2 = 1) := by decide +kernel
theorem odd_byte (n : Nat) : byt n 0 % 2 = n % 2 := by unfold byt; rw [Nat.pow_zero, Nat.div_one]; omega
theorem last_strB (n : Nat) (hn : nb n ≤ 100000) : abacusref09_last.f (strB n) = some (decide (n % 2 = 1)) := by
  unfold abacusref09_last.f
  by_cases h : n = 0
  · rw [if_pos ((strB_empty n).2 h), h]; rfl
  · have hb := nb_pos n h
    have e : wrap64 ((nb n : Int) - 1) = ((nb n - 1 : Nat) : Int) := by rw [wrap_id _ (by omega) (by omega)]; omega
    rw [if_neg (fun e => h ((strB_empty n).1 e)), size_strB, e, if_pos (by omega), if_pos (by omega), bt_strB n _ (by omega), show nb n - 1 - (nb n - 1) = 0 by omega, and1_u8 _ (byt_lt n 0), odd_byte]
theorem odd_strB (n : Nat) (hn : nb n ≤ 100000) : abacusref06_odd.f (strB n) = some (decide (n % 2 = 1)) := last_strB n hn
theorem len_monoQ (x y : Nat) (h : x ≤ y) : lenN x ≤ lenN y := (lenN_le x _).2 (Nat.lt_of_le_of_lt h (lenN_lt y))
theorem nb_monoQ (x y : Nat) (h : x ≤ y) : nb x ≤ nb y := by have := len_monoQ x y h; unfold nb; omega
theorem nb_addQ (a b m : Nat) (ha : nb a ≤ m) (hb : nb b ≤ m) : nb (a + b) ≤ m + 1 := by
  have h2 := (nb_le a m).1 ha
  have h3 := (nb_le b m).1 hb
  refine (nb_le _ _).2 ?_
  rw [pow_succ256]
  generalize 256 ^ m = x at *
  omega
theorem half_neg (x : Int) (h : 0 ≤ x) : Int.tdiv (-x) 2 = -(x / 2) ∧ Int.tmod (-x) 2 = -(x % 2) := by
  rw [Int.neg_tdiv, Int.neg_tmod, Int.tdiv_eq_ediv_of_nonneg h, Int.tmod_eq_emod_of_nonneg h]; exact ⟨rfl, rfl⟩
theorem len_mulQ (n k : Nat) (hn : n ≠ 0) : lenN (n * 2 ^ k) = lenN n + k := by
  have h := lenN_div (n * 2 ^ k) k (by rw [Nat.mul_div_cancel _ (two_pos k)]; exact hn)
  rw [Nat.mul_div_cancel _ (two_pos k)] at h; exact h.symm
theorem fl_nbQ (n d : Nat) (e a : Int) (hn : lenN n ≤ 100000) (he : e - a ≤ 30000) : nb (ratFl n d e a) ≤ 16300 := by
  unfold ratFl
  by_cases h0 : n = 0
  · subst h0; rw [Nat.zero_mul, Nat.zero_div]; decide
  · have h1 := len_monoQ _ _ (Nat.div_le_self (n * 2 ^ (e - a).toNat) (d * 2 ^ (a - e).toNat))
    rw [len_mulQ n _ h0] at h1
    unfold nb; omega
theorem wrap_sm (x : Int) (h1 : -9000000 ≤ x) (h2 : x ≤ 9000000) : wrap64 x = x := wrap_id x (by omega) (by omega)
def topR (root : Bool) (E : Int) : Int := if root = true then E / 2 else E
open Go.RowKit Go.Proofs.YtecdpjhifmlahaaGreatDoorW.PrintWords Go.Proofs.YtecdpjhifmlahaaGreatDoor.PDivQuotients
theorem str_fullO (v : Nat) (h : v ≠ 0) : (strB v).toList.isEmpty = false ∧ ¬ (strB v).toList = ([] : List UInt8) := by
  have h1 : ¬ (strB v).toList = ([] : List UInt8) := fun e => h ((strB_empty v).1 e)
  refine ⟨?_, h1⟩
  cases hl : (strB v).toList with
  | nil => exact absurd hl h1
  | cons a l => rfl
theorem str_noneO (v : Nat) (h : v = 0) : (strB v).toList.isEmpty = true ∧ (strB v).toList = ([] : List UInt8) := by
  have h1 := (strB_empty v).2 h
  exact ⟨by rw [h1]; rfl, h1⟩
theorem top_one_den (n : Nat) (hn : n ≠ 0) : topX n 1 = (lenN n : Int) - 1 := by
  have l1 : lenN 1 = 1 := by decide
  have hl := lenN_pos n hn
  unfold topX
  rw [l1, if_pos hl, if_pos (by rw [Nat.one_mul]; exact lenN_ge n hn)]; omega
theorem wrap_smI (x : Int) (h1 : -9000000 ≤ x) (h2 : x ≤ 9000000) : IntKind.i64.wrap x = x := by rw [IntKind.wrap_i64]; omega
def ofA (o : Option Nat) : Value := .tuple #[BV (o.getD 0), .bool o.isSome]
theorem len113_top6 (v : Nat) (h : lenN v ≤ 113) : v < top6 := lt_top_bits v (Nat.lt_of_lt_of_le ((lenN_le v 113).1 h) (by decide))
theorem r8Of_any (f : Nat) (neg : Bool) (n : Nat) (e : Int) (w : World) (hf : f < 4) (hn : n ≠ 0) (hnl : lenN n ≤ 1000) (he : -100000 ≤ e) (he2 : e ≤ 100000) :
    Calls Tryz.prog 84 #[.int .u8 f, exV neg n 1 e] w fun e' w' => e' = .returned (ofA (ofR f neg n e)) ∧ Below w.heap.size w w' := by
  have hnb : nb n ≤ 16384 := by unfold nb; omega
  have n1 : nb 1 ≤ 16384 := by decide
  have hl := lenN_pos n hn
  obtain ⟨s1, s2⟩ := str_fullO n hn
  have t1 : (strB 1).toList = ([1] : List UInt8) := (one_list 1).2 rfl
  have t2 : ((strB 1).toList == ([1] : List UInt8)) = true := by rw [t1]; rfl
  obtain ⟨p1, p2, -, -, -, -⟩ := formB f hf
  obtain ⟨-, -, -, k4, k5, k6, -, -⟩ := formK f hf
  have cP := fun w => r7Precision_any f w
  have cX := fun w => r7Emax_any f w
  have cM := fun w => r7Emin_any f w
  have cT := fun w => r6Top_any neg n 1 e w hn hnb n1 (by omega) (by omega)
  rw [top_one_den n hn] at cT
  obtain ⟨T, hT⟩ : ∃ T, (lenN n : Int) - 1 + e = T := ⟨_, rfl⟩
  rw [hT] at cT
  have hT1 : -100000 ≤ T := by omega
  have hT2 : T ≤ 200000 := by omega
  by_cases h1 : (eF f : Int) < T
  · have e1 : ofR f neg n e = none := by unfold ofR; rw [hT, if_pos h1]
    rw [e1]
    exact r8Of_x f neg (strB n) (strB 1) e w (pF f) (eF f) T 0 (eminI f) p2 p1 (by omega) (by omega) (by omega) (by omega) s1 s2 cP cT t2 t1 cX (decide_eq_true h1)
  by_cases hm : T < eminI f
  · have ha : atN f T = (eminI f - (pF f : Int) + 1) := by unfold atN; omega
    by_cases h2 : e < (eminI f - (pF f : Int) + 1)
    · have e1 : ofR f neg n e = none := by unfold ofR; rw [hT, if_neg h1, ha, if_pos h2]
      rw [e1]
      exact r8Of_et f neg (strB n) (strB 1) e w (pF f) (eF f) T 0 (eminI f) p2 p1 (by omega) (by omega) (by omega) (by omega) s1 s2 cP cT t2 t1 cX (decide_eq_false h1) cM (decide_eq_true hm) (decide_eq_true h2)
    have hv : ratFl n 1 e (eminI f - (pF f : Int) + 1) = n * 2 ^ (e - (eminI f - (pF f : Int) + 1)).toNat := by unfold ratFl; rw [Nat.one_mul, show ((eminI f - (pF f : Int) + 1) - e).toNat = 0 by omega, Nat.pow_zero, Nat.div_one]
    have hlv : lenN (n * 2 ^ (e - (eminI f - (pF f : Int) + 1)).toNat) = lenN n + (e - (eminI f - (pF f : Int) + 1)).toNat := lenN_mul_pow n _ hn
    have o : ofR f neg n e = if lenN (n * 2 ^ (e - (eminI f - (pF f : Int) + 1)).toNat) < pF f then some (mkN f neg 0 (n * 2 ^ (e - (eminI f - (pF f : Int) + 1)).toNat)) else some (mkN f neg ((eminI f - (pF f : Int) + 1) - eminI f + pF f).toNat (n * 2 ^ (e - (eminI f - (pF f : Int) + 1)).toNat % 2 ^ (pF f - 1))) := by unfold ofR; rw [hT, if_neg h1, ha, if_neg h2]
    have cF := fun w => r6Floor_any neg n 1 e (eminI f - (pF f : Int) + 1) w hnb n1 (by decide) (by omega) (by omega) (by omega) (by omega) (by omega)
    simp only [hv] at cF
    obtain ⟨v, ev⟩ : ∃ v, n * 2 ^ (e - (eminI f - (pF f : Int) + 1)).toNat = v := ⟨_, rfl⟩
    rw [ev] at hlv o
    simp only [ev] at cF
    have hlp : lenN v ≤ pF f := by omega
    have cW := fun w => r5ToWide_any v w (by unfold nb; omega)
    have cL := fun w => r2Len_any v w (len113_top6 v (by omega))
    by_cases h3 : lenN v < pF f
    · rw [o, if_pos h3]
      have cB := fun w => r7Build_any f 0 v neg w hf (by omega) ((lenN_le v _).1 (by omega))
      exact r8Of_st f neg (strB n) (strB 1) e w (pF f) (eF f) v (lenN v) 0 (mkN f neg 0 v) 0 _ true false 0 T 0 (eminI f) p2 p1 (by omega) (by omega) (by omega) (by omega) s1 s2 cP cT t2 t1 cX (decide_eq_false h1) cM (decide_eq_true hm) (decide_eq_false h2) cF cW cL (decide_eq_true (by omega)) h3 cB
    · rw [o, if_neg h3]
      have cK := fun w => r2Mask_any ((pF f : Int) - 1) w
      rw [show clip ((pF f : Int) - 1) = pF f - 1 by unfold clip; omega] at cK
      have cA := fun w => r2And_any v (2 ^ (pF f - 1) - 1) w
      rw [Nat.and_two_pow_sub_one_eq_mod] at cA
      have cB := fun w => r7Build_any f ((eminI f - (pF f : Int) + 1) - eminI f + pF f).toNat (v % 2 ^ (pF f - 1)) neg w hf (by omega) (Nat.mod_lt _ (two_pos _))
      rw [show ((((eminI f - (pF f : Int) + 1) - eminI f + pF f).toNat : Nat) : Int) = (eminI f - (pF f : Int) + 1) - eminI f + (pF f : Int) by omega] at cB
      exact r8Of_nt f neg (strB n) (strB 1) e w (pF f) (eF f) v (lenN v) (2 ^ (pF f - 1) - 1) (mkN f neg ((eminI f - (pF f : Int) + 1) - eminI f + pF f).toNat (v % 2 ^ (pF f - 1))) (v % 2 ^ (pF f - 1)) _ true false 0 T 0 (eminI f) p2 p1 (by omega) (by omega) (by omega) (by omega) s1 s2 cP cT t2 t1 cX (decide_eq_false h1) cM (decide_eq_true hm) (decide_eq_false h2) cF cW cL (wrap_smI _ (by omega) (by omega)) (wrap_smI _ (by omega) (by omega)) (wrap_smI _ (by omega) (by omega)) (decide_eq_false (by omega)) h3 cK cA cB
  · have ha : atN f T = (T - (pF f : Int) + 1) := by unfold atN; omega
    by_cases h2 : e < (T - (pF f : Int) + 1)
    · have e1 : ofR f neg n e = none := by unfold ofR; rw [hT, if_neg h1, ha, if_pos h2]
      rw [e1]
      exact r8Of_ef f neg (strB n) (strB 1) e w (pF f) (eF f) T 0 (eminI f) p2 p1 (by omega) (by omega) (by omega) (by omega) s1 s2 cP cT t2 t1 cX (decide_eq_false h1) cM (decide_eq_false hm) (decide_eq_true h2)
    have hv : ratFl n 1 e (T - (pF f : Int) + 1) = n * 2 ^ (e - (T - (pF f : Int) + 1)).toNat := by unfold ratFl; rw [Nat.one_mul, show ((T - (pF f : Int) + 1) - e).toNat = 0 by omega, Nat.pow_zero, Nat.div_one]
    have hlv : lenN (n * 2 ^ (e - (T - (pF f : Int) + 1)).toNat) = lenN n + (e - (T - (pF f : Int) + 1)).toNat := lenN_mul_pow n _ hn
    have o : ofR f neg n e = if lenN (n * 2 ^ (e - (T - (pF f : Int) + 1)).toNat) < pF f then some (mkN f neg 0 (n * 2 ^ (e - (T - (pF f : Int) + 1)).toNat)) else some (mkN f neg ((T - (pF f : Int) + 1) - eminI f + pF f).toNat (n * 2 ^ (e - (T - (pF f : Int) + 1)).toNat % 2 ^ (pF f - 1))) := by unfold ofR; rw [hT, if_neg h1, ha, if_neg h2]
    have cF := fun w => r6Floor_any neg n 1 e (T - (pF f : Int) + 1) w hnb n1 (by decide) (by omega) (by omega) (by omega) (by omega) (by omega)
    simp only [hv] at cF
    obtain ⟨v, ev⟩ : ∃ v, n * 2 ^ (e - (T - (pF f : Int) + 1)).toNat = v := ⟨_, rfl⟩
    rw [ev] at hlv o
    simp only [ev] at cF
    have hlp : lenN v ≤ pF f := by omega
    have cW := fun w => r5ToWide_any v w (by unfold nb; omega)
    have cL := fun w => r2Len_any v w (len113_top6 v (by omega))
    by_cases h3 : lenN v < pF f
    · rw [o, if_pos h3]
      have cB := fun w => r7Build_any f 0 v neg w hf (by omega) ((lenN_le v _).1 (by omega))
      exact r8Of_sf f neg (strB n) (strB 1) e w (pF f) (eF f) v (lenN v) 0 (mkN f neg 0 v) 0 _ true false 0 T 0 (eminI f) p2 p1 (by omega) (by omega) (by omega) (by omega) s1 s2 cP cT t2 t1 cX (decide_eq_false h1) cM (decide_eq_false hm) (decide_eq_false h2) cF cW cL (decide_eq_true (by omega)) h3 cB
    · rw [o, if_neg h3]
      have cK := fun w => r2Mask_any ((pF f : Int) - 1) w
      rw [show clip ((pF f : Int) - 1) = pF f - 1 by unfold clip; omega] at cK
      have cA := fun w => r2And_any v (2 ^ (pF f - 1) - 1) w
      rw [Nat.and_two_pow_sub_one_eq_mod] at cA
      have cB := fun w => r7Build_any f ((T - (pF f : Int) + 1) - eminI f + pF f).toNat (v % 2 ^ (pF f - 1)) neg w hf (by omega) (Nat.mod_lt _ (two_pos _))
      rw [show ((((T - (pF f : Int) + 1) - eminI f + pF f).toNat : Nat) : Int) = (T - (pF f : Int) + 1) - eminI f + (pF f : Int) by omega] at cB
      exact r8Of_nf f neg (strB n) (strB 1) e w (pF f) (eF f) v (lenN v) (2 ^ (pF f - 1) - 1) (mkN f neg ((T - (pF f : Int) + 1) - eminI f + pF f).toNat (v % 2 ^ (pF f - 1))) (v % 2 ^ (pF f - 1)) _ true false 0 T 0 (eminI f) p2 p1 (by omega) (by omega) (by omega) (by omega) s1 s2 cP cT t2 t1 cX (decide_eq_false h1) cM (decide_eq_false hm) (decide_eq_false h2) cF cW cL (wrap_smI _ (by omega) (by omega)) (wrap_smI _ (by omega) (by omega)) (wrap_smI _ (by omega) (by omega)) (decide_eq_false (by omega)) h3 cK cA cB
end Go.Proofs.YtecdpjhifmlahaaGreatDoor
