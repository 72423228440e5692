/- Part 41 of the proof. -/
import Derived.Test.YtgmhmpflmgfcdaaGreatDoorHq4
import Derived.Test.YtgmhmpflmgfcdaaGreatDoorHq5
import Derived.Test.YtgmhmpflmgfcdaaGreatDoorHq6
import Derived.Test.YtgmhmpflmgfcdaaGreatDoorHq7
import Derived.Test.YtgmhmpflmgfcdaaGreatDoorHq8
import Derived.Test.YtgmhmpflmgfcdaaGreatDoorHq9
import Derived.Test.YtgmhmpflmgfcdaaGreatDoorHq32
import Derived.Test.YtgmhmpflmgfcdaaGreatDoorHq37
import Derived.Test.YtgmhmpflmgfcdaaGreatDoorHq39
import Derived.Test.YtgmhmpflmgfcdaaGreatDoorHq40
set_option linter.unusedSimpArgs false
set_option linter.unusedVariables false
set_option linter.unnecessarySimpa false
set_option maxRecDepth 100000
set_option maxHeartbeats 3200000
namespace Go.Proofs.YtgmhmpflmgfcdaaGreatDoor
open Go.RowKit
theorem roundPack_over2_f (f m s p l E k lk o : Nat) (e top lo : Int) (neg ex : Bool) (w : World) (hT : Tab w) (hp : p ≤ 113) (h1 : -1048576 ≤ e) (h2 : e ≤ 1048576) (hl4 : l ≤ 384) (cP : CK_ 79 #[.int .u8 f] (.int .i64 (p : Nat))) (cR : ∀ w, Calls Tryz.prog 140 #[.int .u8 f, .int .u8 m] w fun e w' => e = .returned (.bool true) ∧ w = w') (cL : CK_ 80 #[W s] (.int .i64 (l : Nat))) (hs : s < top6) (hs0 : decide (s = 0) = false) (htop : (l : Int) - 1 + e = top) (l1 : -20000 ≤ lo) (l2 : lo ≤ 20000) (t1 : -1100000 ≤ top) (t2 : top ≤ 1100000) (hE : E ≤ 16383) (cE : CK_ 141 #[.int .u8 f] (.int .i64 lo)) (cX : CK_ 142 #[.int .u8 f] (.int .i64 (E : Nat))) (hlk : lk ≤ 384) (hov : ¬ (E : Int) < top) (hov2 : (E : Int) < (lk : Int) - 1 + (max top lo - (p : Int) + 1)) (cG : CT_ 144 #[.int .u8 m, RV neg s e false, .int .i64 (max top lo - (p : Int) + 1)] (.tuple #[W k, .bool ex])) (cK : CK_ 80 #[W k] (.int .i64 (lk : Nat))) (cO : CK_ 143 #[.int .u8 f, .int .u8 m, .bool neg] (.tuple #[BV o, .int .u8 5, .int .i64 0]))  :
  CR_ 61 #[.int .u8 f, .int .u8 m, RV neg s e false] w (.tuple #[BV o, .int .u8 5, .int .i64 0]) := by
 have H := Own.start w
 have HT := Lib.hid hT
 clear hT
 have he2 : decide (e < -1048576) = false := by simp; omega
 have he3 : decide (1048576 < e) = false := by simp; omega
 have eq1 : ∀ w, (Op.equalIn 10000 60 (.agg (limbs s)) (.agg #[.int .u64 0, .int .u64 0, .int .u64 0, .int .u64 0, .int .u64 0, .int .u64 0])).run Tryz.prog w = .ok false w := fun w => (run_equal_zero w s hs).trans (by rw [hs0])
 have v1 : IntKind.i64.wrap ((l : Int) - 1) = (l : Int) - 1 := IntWalk.i64_in _ (by omega)
 have v2 : IntKind.i64.wrap ((l : Int) - 1 + e) = top := by rw [htop]; exact IntWalk.i64_in _ (by omega)
 clear hs hs0 htop
 have hov3 : decide ((E : Int) < top) = false := by simp; omega
 have hov4 : decide ((E : Int) < (lk : Int) - 1 + (max top lo - (p : Int) + 1)) = true := by simp only [decide_eq_true_eq]; exact hov2
 go_enter Tryz.func61, Tryz.ntmps61
 exact walk1
theorem roundPack_over2_t (f m s p l E k lk o : Nat) (e top lo : Int) (neg ex : Bool) (w : World) (hT : Tab w) (hp : p ≤ 113) (h1 : -1048576 ≤ e) (h2 : e ≤ 1048576) (hl4 : l ≤ 384) (hl : ¬ l < p + 2) (cP : CK_ 79 #[.int .u8 f] (.int .i64 (p : Nat))) (cR : ∀ w, Calls Tryz.prog 140 #[.int .u8 f, .int .u8 m] w fun e w' => e = .returned (.bool true) ∧ w = w') (cL : CK_ 80 #[W s] (.int .i64 (l : Nat))) (hs : s < top6) (hs0 : decide (s = 0) = false) (htop : (l : Int) - 1 + e = top) (l1 : -20000 ≤ lo) (l2 : lo ≤ 20000) (t1 : -1100000 ≤ top) (t2 : top ≤ 1100000) (hE : E ≤ 16383) (cE : CK_ 141 #[.int .u8 f] (.int .i64 lo)) (cX : CK_ 142 #[.int .u8 f] (.int .i64 (E : Nat))) (hlk : lk ≤ 384) (hov : ¬ (E : Int) < top) (hov2 : (E : Int) < (lk : Int) - 1 + (max top lo - (p : Int) + 1)) (cG : CT_ 144 #[.int .u8 m, RV neg s e true, .int .i64 (max top lo - (p : Int) + 1)] (.tuple #[W k, .bool ex])) (cK : CK_ 80 #[W k] (.int .i64 (lk : Nat))) (cO : CK_ 143 #[.int .u8 f, .int .u8 m, .bool neg] (.tuple #[BV o, .int .u8 5, .int .i64 0]))  :
  CR_ 61 #[.int .u8 f, .int .u8 m, RV neg s e true] w (.tuple #[BV o, .int .u8 5, .int .i64 0]) := by
 have H := Own.start w
 have HT := Lib.hid hT
 clear hT
 have he2 : decide (e < -1048576) = false := by simp; omega
 have he3 : decide (1048576 < e) = false := by simp; omega
 have hl2 : decide ((l : Int) < (p : Int) + 2) = false := by simp; omega
 have eq1 : ∀ w, (Op.equalIn 10000 60 (.agg (limbs s)) (.agg #[.int .u64 0, .int .u64 0, .int .u64 0, .int .u64 0, .int .u64 0, .int .u64 0])).run Tryz.prog w = .ok false w := fun w => (run_equal_zero w s hs).trans (by rw [hs0])
 have v1 : IntKind.i64.wrap ((l : Int) - 1) = (l : Int) - 1 := IntWalk.i64_in _ (by omega)
 have v2 : IntKind.i64.wrap ((l : Int) - 1 + e) = top := by rw [htop]; exact IntWalk.i64_in _ (by omega)
 clear hs hs0 htop
 have hov3 : decide ((E : Int) < top) = false := by simp; omega
 have hov4 : decide ((E : Int) < (lk : Int) - 1 + (max top lo - (p : Int) + 1)) = true := by simp only [decide_eq_true_eq]; exact hov2
 go_enter Tryz.func61, Tryz.ntmps61
 exact walk1
theorem roundTiny_any (f m s : Nat) (e top : Int) (neg mo : Bool) (w : World) (hT : Tab w) (hf : f < 4) (hm : m < 5) (hs : s < top6) (hs0 : s ≠ 0) (h1 : -1048576 ≤ e) (h2 : e ≤ 1048576) (ht : (lenN s : Int) - 1 + e = top) :
  CR_ 145 #[.int .u8 f, .int .u8 m, RV neg s e mo, .int .i64 top] w (.bool (tinyB f m neg s e mo top)) := by
 have hK := formK f hf
 have hp := pF_113 f
 have hl := lenN_pos s hs0
 have hl4 : lenN s ≤ 384 := (lenN_le s 384).2 (by rw [show 384 = 64 * 6 from rfl, ← top6.eq_1]; exact hs)
 have cE := fun w => shapeEmin_any f w (by omega)
 have cP := fun w => shapePrecision_any f w (by omega)
 unfold tinyB
 by_cases hq : top = eminI f - 1
 ·rw [if_pos hq]
  have hk := gridN_le m s (pF f) neg mo e (top - pF f + 1) (by omega)
  have cG := fun w hT => roundGrid_any m s e (top - pF f + 1) neg mo w hT (by omega) hs (by omega) (by omega) (by omega) (by omega) (by omega)
  have cK := fun w => wideLen_any (gridN m neg s e mo (top - pF f + 1)).1 w (lt_top114 _ _ hp hk)
  exact roundTiny_eq f m s (pF f) _ _ e top (eminI f) _ neg mo _ w hT hp (by omega) (by omega) (by omega) (by omega) (by rw [hq, beq_self_eq_true]) rfl cE cP cG cK
 ·rw [if_neg hq]
  exact roundTiny_ne f m s (pF f) e top (eminI f) neg mo w hT hp (by omega) (by omega) (by omega) (by omega) (by rw [beq_eq_false_iff_ne]; exact hq) cE cP
theorem roundPack_any (f m s : Nat) (e : Int) (neg mo : Bool) (w : World) (hT : Tab w) (hf : f < 256) (hm : m < 256) (hs : s < top6) :
  CR_ 61 #[.int .u8 f, .int .u8 m, RV neg s e mo] w (.tuple #[BV (packN f m neg s e mo).1, .int .u8 ((packN f m neg s e mo).2.1 : Nat), .int .i64 (packN f m neg s e mo).2.2]) := by
 have hp := pF_113 f
 have hl4 : lenN s ≤ 384 := (lenN_le s 384).2 (by rw [show 384 = 64 * 6 from rfl, ← top6.eq_1]; exact hs)
 have cP := fun w => shapePrecision_any f w hf
 have cR := fun w => roundRight_any f m w hf hm
 have cL := fun w => wideLen_any s w hs
 have cZ := fun w => shapeZero_any f neg w hf
 by_cases hr : (decide (f < 4) && decide (m < 5)) = true
 case neg =>
  have hr' : (decide (f < 4) && decide (m < 5)) = false := by cases h : (decide (f < 4) && decide (m < 5)) <;> simp_all
  have hN : packN f m neg s e mo = (0, 0, 2) := by unfold packN packOk; rw [hr']; simp only [Bool.false_and, Bool.false_eq_true, if_false]
  rw [hN]
  rw [hr'] at cR
  exact roundPack_right f m s _ e neg mo w hp cP cR
 rw [hr] at cR
 have hf4 : f < 4 := by simp only [Bool.and_eq_true, decide_eq_true_eq] at hr; exact hr.1
 have hm5 : m < 5 := by simp only [Bool.and_eq_true, decide_eq_true_eq] at hr; exact hr.2
 by_cases he1 : e < -1048576
 ·have hN : packN f m neg s e mo = (0, 0, 2) := by unfold packN packOk; rw [decide_eq_false (show ¬ -1048576 ≤ e by omega)]; simp only [Bool.and_false, Bool.false_and, Bool.false_eq_true, if_false]
  rw [hN]
  exact roundPack_low f m s _ e neg mo w hp he1 cP cR
 by_cases he2 : 1048576 < e
 ·have hN : packN f m neg s e mo = (0, 0, 2) := by unfold packN packOk; rw [decide_eq_false (show ¬ e ≤ 1048576 by omega)]; simp only [Bool.and_false, Bool.false_and, Bool.false_eq_true, if_false]
  rw [hN]
  exact roundPack_high f m s _ e neg mo w hp he2 cP cR
 by_cases hmo : (mo && decide (lenN s < pF f + 2)) = true
 ·have hN : packN f m neg s e mo = (0, 0, 2) := by unfold packN packOk; rw [hmo]; simp only [Bool.not_true, Bool.and_false, Bool.false_eq_true, if_false]
  rw [hN]
  have ht : mo = true := by cases mo <;> simp_all
  subst ht
  exact roundPack_more f m s (pF f) (lenN s) e neg w hp (by omega) (by omega) (by simpa using hmo) hl4 cP cR cL
 have hmo' : (mo && decide (lenN s < pF f + 2)) = false := by cases h : (mo && decide (lenN s < pF f + 2)) <;> simp_all
 have hok : packOk f m s e mo = true := by
  unfold packOk
  rw [hr, hmo', decide_eq_true (show -1048576 ≤ e by omega), decide_eq_true (show e ≤ 1048576 by omega)]; rfl
 have hl : mo = true → ¬ lenN s < pF f + 2 := by intro ht; subst ht; simpa using hmo'
 by_cases hz : s = 0
 ·have hN : packN f m neg s e mo = (zeroN f neg, 0, 0) := by unfold packN; rw [if_pos hok, if_pos hz]
  rw [hN]
  cases mo with
  | false => exact roundPack_zero_f f m s (pF f) (lenN s) _ e neg w hT hp (by omega) (by omega) hl4 cP cR cL hs (decide_eq_true hz) cZ
  | true => exact roundPack_zero_t f m s (pF f) (lenN s) _ e neg w hT hp (by omega) (by omega) hl4 (hl rfl) cP cR cL hs (decide_eq_true hz) cZ
 have hN : packN f m neg s e mo = ((packB f m neg s e mo).1, (packB f m neg s e mo).2, 0) := by unfold packN; rw [if_pos hok, if_neg hz]
 rw [hN]
 have hK := formK f hf4
 have hl1 := lenN_pos s hz
 have cE := fun w => shapeEmin_any f w hf
 have cX := fun w => shapeEmax_any f w hf
 have cO := fun w => roundOver_any f m neg w hf4 hm5
 obtain ⟨top, htop⟩ : ∃ top, (lenN s : Int) - 1 + e = top := ⟨_, rfl⟩
 have hz' := decide_eq_false hz
 unfold packB
 rw [htop]
 by_cases hov : (eF f : Int) < top
 ·rw [if_pos hov]
  cases mo with
  | false => exact roundPack_over_f f m s (pF f) (lenN s) (eF f) _ e top (eminI f) neg w hT hp (by omega) (by omega) hl4 cP cR cL hs hz' htop (by omega) (by omega) (by omega) (by omega) (by omega) cE cX hov cO
  | true => exact roundPack_over_t f m s (pF f) (lenN s) (eF f) _ e top (eminI f) neg w hT hp (by omega) (by omega) hl4 (hl rfl) cP cR cL hs hz' htop (by omega) (by omega) (by omega) (by omega) (by omega) cE cX hov cO
 rw [if_neg hov]
 have hat : atN f top = max top (eminI f) - (pF f : Int) + 1 := rfl
 have hk := gridN_le m s (pF f) neg mo e (atN f top) (by rw [hat]; omega)
 have cG := fun w hT => roundGrid_any m s e (atN f top) neg mo w hT hm hs (by omega) (by omega) (by rw [hat]; omega) (by rw [hat]; omega) (by rw [hat]; omega)
 have cT := fun w hT => roundTiny_any f m s e top neg mo w hT hf4 hm5 hs hz (by omega) (by omega) htop
 obtain ⟨k, ex, hg⟩ : ∃ k ex, gridN m neg s e mo (atN f top) = (k, ex) := ⟨_, _, rfl⟩
 rw [hg] at cG hk ⊢
 rw [hat] at cG
 have hk' : k ≤ 2 ^ pF f := hk
 have hkt := lt_top114 k _ hp hk'
 have hkl := lenN_le_of k _ hk'
 have cK := fun w => wideLen_any k w hkt
 by_cases hov2 : (eF f : Int) < lenN k - 1 + atN f top
 ·rw [if_pos hov2]
  rw [hat] at hov2
  cases mo with
  | false => exact roundPack_over2_f f m s (pF f) (lenN s) (eF f) k (lenN k) _ e top (eminI f) neg ex w hT hp (by omega) (by omega) hl4 cP cR cL hs hz' htop (by omega) (by omega) (by omega) (by omega) (by omega) cE cX (by omega) hov hov2 cG cK cO
  | true => exact roundPack_over2_t f m s (pF f) (lenN s) (eF f) k (lenN k) _ e top (eminI f) neg ex w hT hp (by omega) (by omega) hl4 (hl rfl) cP cR cL hs hz' htop (by omega) (by omega) (by omega) (by omega) (by omega) cE cX (by omega) hov hov2 cG cK cO
 rw [if_neg hov2]
 rw [hat] at hov2
 obtain ⟨d, hd⟩ : ∃ d : Nat, d = (max top (eminI f) - eminI f).toNat := ⟨_, rfl⟩
 have hd1 : max top (eminI f) - (pF f : Int) + 1 - eminI f + (pF f : Int) - 1 = (d : Int) := by omega
 have hd2 : (atN f top - eminI f + pF f - 1).toNat = d := by rw [hat]; omega
 have hen := enc_lt f k d hf4 hk' (by omega)
 have cOf := fun w => wideOf_any d w (by omega)
 rw [← hd1] at cOf
 have cLf := fun w => wideLeft_any d ((pF f : Int) - 1) w (lt_top_bits d (by omega))
 have hcl : clip ((pF f : Int) - 1) = pF f - 1 := by unfold clip; omega
 rw [hcl] at cLf
 have cAd := fun w => wideAdd_any (d * 2 ^ (pF f - 1)) k w
 have hw : 2 ^ (wF f - 1) ≤ 2 ^ (64 * 2) := Nat.pow_le_pow_right (by decide) (by rcases forms f with rfl | rfl | rfl | rfl | h <;> first | decide | omega)
 have cB := fun w => wideToBits_any (d * 2 ^ (pF f - 1) + k) w (Nat.lt_of_lt_of_le hen hw)
 have hzn : zeroN f neg = signN f neg := by unfold zeroN; rw [decide_eq_true hf4, cond_true]
 have hor : (d * 2 ^ (pF f - 1) + k) ||| zeroN f neg = encN f neg k (atN f top) := by
  rw [hzn, or_sign f _ neg hen]; unfold encN; rw [hd2]
 have fin : ∀ fl : Value, Ending.returned (.tuple #[.agg #[.int .u64 (Go.bits .or .u64 (limb (d * 2 ^ (pF f - 1) + k) 1) (limb (zeroN f neg) 1)), .int .u64 (Go.bits .or .u64 (limb (d * 2 ^ (pF f - 1) + k) 0) (limb (zeroN f neg) 0))], fl, .int .i64 0]) = .returned (.tuple #[BV (encN f neg k (atN f top)), fl, .int .i64 0]) := by
  intro fl
  have h := pair_or (d * 2 ^ (pF f - 1) + k) (zeroN f neg)
  rw [hor] at h
  injection h with h
  rw [h]
 cases ex with
 | true =>
  simp only [cond_true]
  cases mo with
  | false =>
   refine (roundPack_x_f f m s (pF f) (lenN s) (eF f) k (lenN k) _ d _ _ _ e top (eminI f) neg _ _ _ w hT hp (by omega) (by omega) hl4 cP cR cL hs hz' htop (by omega) (by omega) (by omega) (by omega) (by omega) cE cX (by omega) hov hov2 cG cK cOf cLf cAd cB cZ).mono ?_
   intro e' w' ⟨he, hb⟩
   exact ⟨he.trans (fin _), hb⟩
  | true =>
   refine (roundPack_x_t f m s (pF f) (lenN s) (eF f) k (lenN k) _ d _ _ _ e top (eminI f) neg _ _ _ w hT hp (by omega) (by omega) hl4 (hl rfl) cP cR cL hs hz' htop (by omega) (by omega) (by omega) (by omega) (by omega) cE cX (by omega) hov hov2 cG cK cOf cLf cAd cB cZ).mono ?_
   intro e' w' ⟨he, hb⟩
   exact ⟨he.trans (fin _), hb⟩
 | false =>
  simp only [cond_false]
  cases hty : tinyB f m neg s e mo top with
  | false =>
   rw [hty] at cT
   simp only [cond_false]
   cases mo with
   | false =>
    refine (roundPack_i_f f m s (pF f) (lenN s) (eF f) k (lenN k) _ d _ _ _ e top (eminI f) neg _ _ _ w hT hp (by omega) (by omega) hl4 cP cR cL hs hz' htop (by omega) (by omega) (by omega) (by omega) (by omega) cE cX (by omega) hov hov2 cG cK cOf cLf cAd cB cZ cT).mono ?_
    intro e' w' ⟨he, hb⟩
    exact ⟨he.trans (fin _), hb⟩
   | true =>
    refine (roundPack_i_t f m s (pF f) (lenN s) (eF f) k (lenN k) _ d _ _ _ e top (eminI f) neg _ _ _ w hT hp (by omega) (by omega) hl4 (hl rfl) cP cR cL hs hz' htop (by omega) (by omega) (by omega) (by omega) (by omega) cE cX (by omega) hov hov2 cG cK cOf cLf cAd cB cZ cT).mono ?_
    intro e' w' ⟨he, hb⟩
    exact ⟨he.trans (fin _), hb⟩
  | true =>
   rw [hty] at cT
   simp only [cond_true]
   cases mo with
   | false =>
    refine (roundPack_u_f f m s (pF f) (lenN s) (eF f) k (lenN k) _ d _ _ _ e top (eminI f) neg _ _ _ w hT hp (by omega) (by omega) hl4 cP cR cL hs hz' htop (by omega) (by omega) (by omega) (by omega) (by omega) cE cX (by omega) hov hov2 cG cK cOf cLf cAd cB cZ cT).mono ?_
    intro e' w' ⟨he, hb⟩
    exact ⟨he.trans (fin _), hb⟩
   | true =>
    refine (roundPack_u_t f m s (pF f) (lenN s) (eF f) k (lenN k) _ d _ _ _ e top (eminI f) neg _ _ _ w hT hp (by omega) (by omega) hl4 (hl rfl) cP cR cL hs hz' htop (by omega) (by omega) (by omega) (by omega) (by omega) cE cX (by omega) hov hov2 cG cK cOf cLf cAd cB cZ cT).mono ?_
    intro e' w' ⟨he, hb⟩
    exact ⟨he.trans (fin _), hb⟩
theorem limbN_pow (i j : Nat) : limbN (2 ^ i) j = if j = i / 64 then 2 ^ (i % 64) else 0 := by
 have h64 : 2 ^ (i % 64) < 18446744073709551616 := by rw [B64]; exact Nat.pow_lt_pow_right (by decide) (Nat.mod_lt _ (by decide))
 have hp : 2 ^ i = 0 + 2 ^ (i % 64) * 2 ^ (64 * (i / 64)) := by
  rw [Nat.zero_add, ← Nat.pow_add]; congr 1; omega
 have := limbN_put 0 (2 ^ (i % 64)) (i / 64) j (pw_pos _) h64
 rw [← hp] at this
 rw [this]
 have h0 : limbN 0 j = 0 := by unfold limbN; rw [Nat.zero_div]
 rw [h0]
theorem limbs_or_bit (q i : Nat) (hi : i < 384) : (limbs q).setIfInBounds (i / 64) (.int .u64 (Go.bits .or .u64 (limb q (i / 64)) ((2 ^ (i % 64) : Nat) : Int))) = limbs (q ||| 2 ^ i) := by
 have key : ∀ j, limb (q ||| 2 ^ i) j = if j = i / 64 then Go.bits .or .u64 (limb q (i / 64)) ((2 ^ (i % 64) : Nat) : Int) else limb q j := by
  intro j
  rw [← limb_or]
  unfold limb
  rw [limbN_pow i j]
  split
  ·rename_i h; rw [h]
  ·rw [u64_or_nat _ _ (limbN_lt q j) (by decide), Nat.or_zero]
 apply Array.ext_getElem?
 intro j
 by_cases hj : j < 6
 ·rw [limbs_get _ j hj, Array.getElem?_setIfInBounds, key j]
  by_cases h : i / 64 = j
  ·rw [if_pos h, if_pos (by rw [limbs_size]; omega), if_pos h.symm]
  ·rw [if_neg h, if_neg (fun e => h e.symm)]; exact limbs_get q j hj
 ·rw [Array.getElem?_eq_none (by rw [Array.size_setIfInBounds, limbs_size]; omega), Array.getElem?_eq_none (by rw [limbs_size]; omega)]
theorem limbs_or1 (x : Nat) : (limbs x).setIfInBounds 0 (.int .u64 (Go.bits .or .u64 (limb x 0) 1)) = limbs (x ||| 1) := limbs_or_bit x 0 (by decide)
theorem set_or1 (x : Nat) : setRow (limbs x) 0 (#[.int .u64 (Go.bits .or .u64 (limb x 0) 1)] : Array Value).toList = limbs (x ||| 1) := limbs_or1 x
def setL (V j v : Nat) : Nat := V % 2 ^ (64 * j) + v * 2 ^ (64 * j) + V / 2 ^ (64 * (j + 1)) * 2 ^ (64 * (j + 1))
theorem split3 (V j : Nat) : V = V % 2 ^ (64 * j) + limbN V j * 2 ^ (64 * j) + V / 2 ^ (64 * (j + 1)) * 2 ^ (64 * (j + 1)) := by
 have h := Nat.div_add_mod V (2 ^ (64 * (j + 1)))
 rw [Nat.mul_comm] at h
 rw [← mod_low]; omega
theorem setL_sum (V j v : Nat) : setL V j v + limbN V j * 2 ^ (64 * j) = V + v * 2 ^ (64 * j) := by
 have := split3 V j
 unfold setL; omega
theorem limbN_above (x h j i : Nat) (hx : x < 2 ^ (64 * j)) (hi : j ≤ i) : limbN (x + h * 2 ^ (64 * j)) i = limbN (h * 2 ^ (64 * j)) i := by
 unfold limbN
 rw [show 64 * i = 64 * j + 64 * (i - j) by omega, Nat.pow_add, ← Nat.div_div_eq_div_mul, ← Nat.div_div_eq_div_mul, Nat.add_mul_div_right _ _ (pw_pos j), Nat.div_eq_of_lt hx, Nat.zero_add, Nat.mul_div_cancel _ (pw_pos j)]
theorem limbN_under (x h j i : Nat) (hi : i < j) : limbN (x + h * 2 ^ (64 * j)) i = limbN x i := by
 rw [← limbN_mod (x + h * 2 ^ (64 * j)) i j hi, Nat.add_mul_mod_self_right, limbN_mod x i j hi]
theorem limbN_setL (V j v i : Nat) (hv : v < 18446744073709551616) : limbN (setL V j v) i = if i = j then v else limbN V i := by
 have hlo := Nat.mod_lt V (pw_pos j)
 have hx : ∀ u, u < 18446744073709551616 → V % 2 ^ (64 * j) + u * 2 ^ (64 * j) < 2 ^ (64 * (j + 1)) := by
  intro u hu
  have h2 : (u + 1) * 2 ^ (64 * j) ≤ 18446744073709551616 * 2 ^ (64 * j) := Nat.mul_le_mul_right _ (by omega)
  rw [pw_succ, Nat.mul_comm _ 18446744073709551616]
  rw [Nat.add_mul] at h2; omega
 by_cases h : i ≤ j
 ·unfold setL
  rw [limbN_under _ _ (j + 1) i (by omega), limbN_put _ v j i hlo hv]
  split
  ·rfl
  ·rw [limbN_mod V i j (by omega)]
 ·rw [if_neg (by omega)]
  unfold setL
  rw [limbN_above _ _ (j + 1) i (hx v hv) (by omega)]
  conv => rhs; rw [split3 V j]
  rw [limbN_above _ _ (j + 1) i (hx _ (limbN_lt V j)) (by omega)]
def limbs12 (a : Nat) : Array Value := #[.int .u64 (limb a 0), .int .u64 (limb a 1), .int .u64 (limb a 2), .int .u64 (limb a 3), .int .u64 (limb a 4), .int .u64 (limb a 5), .int .u64 (limb a 6), .int .u64 (limb a 7), .int .u64 (limb a 8), .int .u64 (limb a 9), .int .u64 (limb a 10), .int .u64 (limb a 11)]
theorem limbs12_size (a : Nat) : (limbs12 a).size = 12 := rfl
theorem limbs12_get (a i : Nat) (h : i < 12) : (limbs12 a)[i]? = some (.int .u64 (limb a i)) := by
 have : i = 0 ∨ i = 1 ∨ i = 2 ∨ i = 3 ∨ i = 4 ∨ i = 5 ∨ i = 6 ∨ i = 7 ∨ i = 8 ∨ i = 9 ∨ i = 10 ∨ i = 11 := by omega
 rcases this with rfl | rfl | rfl | rfl | rfl | rfl | rfl | rfl | rfl | rfl | rfl | rfl <;> rfl
theorem limbs12_set (V j v : Nat) (hj : j < 12) (hv : v < 18446744073709551616) : (limbs12 V).setIfInBounds j (.int .u64 ((v : Nat) : Int)) = limbs12 (setL V j v) := by
 apply Array.ext_getElem?
 intro i
 by_cases hi : i < 12
 ·rw [limbs12_get _ i hi, Array.getElem?_setIfInBounds]
  unfold limb
  rw [limbN_setL V j v i hv]
  by_cases h : j = i
  ·rw [if_pos h, if_pos (by rw [limbs12_size]; omega), if_pos h.symm]
  ·rw [if_neg h, if_neg (fun e => h e.symm)]; exact limbs12_get V i hi
 ·rw [Array.getElem?_eq_none (by rw [Array.size_setIfInBounds, limbs12_size]; omega), Array.getElem?_eq_none (by rw [limbs12_size]; omega)]
def MulAt (a b i k V c : Nat) : Prop := V + c * 2 ^ (64 * (i + k)) = a % 2 ^ (64 * i) * b + limbN a i * (b % 2 ^ (64 * k)) * 2 ^ (64 * i) ∧ c < 18446744073709551616
def macN (x y l c : Nat) : Nat := x * y + l + c
theorem mac_lt (x y l c : Nat) (hx : x < 18446744073709551616) (hy : y < 18446744073709551616) (hl : l < 18446744073709551616) (hc : c < 18446744073709551616) : macN x y l c / 18446744073709551616 < 18446744073709551616 := by
 have h : x * y ≤ 18446744073709551615 * 18446744073709551615 := Nat.mul_le_mul (by omega) (by omega)
 unfold macN
 generalize x * y = p at *
 omega
theorem mul_start (a b i V : Nat) (h : V = a % 2 ^ (64 * i) * b) : MulAt a b i 0 V 0 := by
 refine ⟨?_, by decide⟩
 rw [Nat.mul_zero, Nat.pow_zero, Nat.mod_one, h]; simp
theorem mul_step (a b i k V c : Nat) (h : MulAt a b i k V c) :
  MulAt a b i (k + 1) (setL V (i + k) (macN (limbN a i) (limbN b k) (limbN V (i + k)) c % 18446744073709551616)) (macN (limbN a i) (limbN b k) (limbN V (i + k)) c / 18446744073709551616) := by
 obtain ⟨h1, h2⟩ := h
 refine ⟨?_, mac_lt _ _ _ _ (limbN_lt _ _) (limbN_lt _ _) (limbN_lt _ _) h2⟩
 have hs := setL_sum V (i + k) (macN (limbN a i) (limbN b k) (limbN V (i + k)) c % 18446744073709551616)
 have hd := Nat.div_add_mod (macN (limbN a i) (limbN b k) (limbN V (i + k)) c) 18446744073709551616
 have hm : macN (limbN a i) (limbN b k) (limbN V (i + k)) c = limbN a i * limbN b k + limbN V (i + k) + c := rfl
 generalize setL V (i + k) (macN (limbN a i) (limbN b k) (limbN V (i + k)) c % 18446744073709551616) = V' at *
 rw [show i + (k + 1) = (i + k) + 1 from rfl, pw_succ (i + k), mod_low b k, Nat.mul_add (limbN a i), Nat.add_mul]
 have e1 : limbN a i * (limbN b k * 2 ^ (64 * k)) * 2 ^ (64 * i) = limbN a i * limbN b k * 2 ^ (64 * (i + k)) := by
  rw [Nat.mul_add 64, Nat.pow_add, ← Nat.mul_assoc, Nat.mul_assoc _ (2 ^ (64 * k)), Nat.mul_comm (2 ^ (64 * k))]
 rw [e1]
 generalize limbN a i * (b % 2 ^ (64 * k)) * 2 ^ (64 * i) = Z at *
 generalize a % 2 ^ (64 * i) * b = Y at *
 rw [hm] at hs hd ⊢
 generalize limbN a i * limbN b k = p at *
 generalize limbN V (i + k) = l at *
 generalize 2 ^ (64 * (i + k)) = P at *
 have e2 : (p + l + c) * P = p * P + l * P + c * P := by rw [Nat.add_mul, Nat.add_mul]
 have e3 : (p + l + c) * P = (p + l + c) / 18446744073709551616 * (P * 18446744073709551616) + (p + l + c) % 18446744073709551616 * P := by
  conv => lhs; rw [← hd]
  rw [Nat.add_mul, Nat.mul_comm 18446744073709551616, Nat.mul_assoc, Nat.mul_comm 18446744073709551616]
 generalize (p + l + c) / 18446744073709551616 * (P * 18446744073709551616) = q1 at *
 generalize (p + l + c) % 18446744073709551616 * P = q2 at *
 generalize p * P = pp at *
 generalize l * P = ll at *
 generalize c * P = cc at *
 omega
theorem mul_row (a b i V c : Nat) (h : MulAt a b i 6 V c) (hb : b < top6) (hz : limbN V (i + 6) = 0) : setL V (i + 6) c = a % 2 ^ (64 * (i + 1)) * b := by
 obtain ⟨h1, h2⟩ := h
 have hs := setL_sum V (i + 6) c
 rw [hz, Nat.zero_mul, Nat.add_zero, h1, ← top6, Nat.mod_eq_of_lt hb] at hs
 rw [hs, mod_low, Nat.add_mul, Nat.mul_right_comm]
theorem mul_high (a b i V : Nat) (h : V = a % 2 ^ (64 * i) * b) (hb : b < top6) (j : Nat) (hj : i + 6 ≤ j) : limbN V j = 0 := by
 have h1 : a % 2 ^ (64 * i) < 2 ^ (64 * i) := Nat.mod_lt _ (pw_pos i)
 have h2 : V < 2 ^ (64 * (i + 6)) := by
  rw [h, Nat.mul_add, Nat.pow_add, ← top6]
  rcases Nat.eq_zero_or_pos b with h0 | h0
  ·rw [h0, Nat.mul_zero]; exact Nat.mul_pos (pw_pos i) (by unfold top6; exact pw_pos 6)
  ·exact Nat.lt_of_lt_of_le ((Nat.mul_lt_mul_right h0).2 h1) (Nat.mul_le_mul_left _ (Nat.le_of_lt hb))
 unfold limbN
 rw [Nat.div_eq_of_lt (Nat.lt_of_lt_of_le h2 (Nat.pow_le_pow_right (by decide) (by omega)))]
theorem setL_high (V j v n : Nat) (hv : v < 18446744073709551616) (hj : j < n) (h : ∀ i, n ≤ i → limbN V i = 0) : ∀ i, n ≤ i → limbN (setL V j v) i = 0 := by
 intro i hi
 rw [limbN_setL V j v i hv, if_neg (by omega)]; exact h i hi
theorem mac_words (x y l c : Nat) (hx : x < 18446744073709551616) (hy : y < 18446744073709551616) (hl : l < 18446744073709551616) (hc : c < 18446744073709551616) :
  addW (addW (mulLo (x : Int) y) (l : Int) false) (c : Int) false = ((macN x y l c % 18446744073709551616 : Nat) : Int) ∧
  addW (addW (mulHi (x : Int) y) 0 (carW (mulLo (x : Int) y) (l : Int) false)) 0 (carW (addW (mulLo (x : Int) y) (l : Int) false) (c : Int) false) = ((macN x y l c / 18446744073709551616 : Nat) : Int) := by
 have h : x * y ≤ 18446744073709551615 * 18446744073709551615 := Nat.mul_le_mul (by omega) (by omega)
 unfold mulLo mulHi macN
 rw [Int.toNat_natCast, Int.toNat_natCast]
 generalize x * y = p at *
 unfold addW carW
 simp only [cond_false]
 by_cases h1 : (18446744073709551616 : Int) ≤ ((p % 18446744073709551616 : Nat) : Int) + (l : Int) + 0
 ·rw [decide_eq_true h1]
  simp only [cond_true]
  by_cases h2 : (18446744073709551616 : Int) ≤ (((p % 18446744073709551616 : Nat) : Int) + (l : Int) + 0) % 18446744073709551616 + (c : Int) + 0
  ·rw [decide_eq_true h2]; simp only [cond_true]; omega
  ·rw [decide_eq_false h2]; simp only [cond_false]; omega
 ·rw [decide_eq_false h1]
  simp only [cond_false]
  by_cases h2 : (18446744073709551616 : Int) ≤ (((p % 18446744073709551616 : Nat) : Int) + (l : Int) + 0) % 18446744073709551616 + (c : Int) + 0
  ·rw [decide_eq_true h2]; simp only [cond_true]; omega
  ·rw [decide_eq_false h2]; simp only [cond_false]; omega
theorem pw_mono0 (j i : Nat) (h : j ≤ i) : 2 ^ (64 * j) ≤ 2 ^ (64 * i) := Nat.pow_le_pow_right (by decide) (Nat.mul_le_mul_left 64 h)
theorem top_le_pw (k : Nat) (hk : 6 ≤ k) : top6 ≤ 2 ^ (64 * k) := by rw [top6.eq_1]; exact pw_mono0 6 k hk
theorem over_step (V k : Nat) (hk : 6 ≤ k) : decide (top6 ≤ V % 2 ^ (64 * (k + 1))) = (decide (top6 ≤ V % 2 ^ (64 * k)) || !decide (limbN V k = 0)) := by
 rw [mod_low]
 by_cases h : limbN V k = 0
 ·rw [h, Nat.zero_mul, Nat.add_zero]; simp
 ·have h1 : top6 ≤ V % 2 ^ (64 * k) + limbN V k * 2 ^ (64 * k) := by
   have : 2 ^ (64 * k) ≤ limbN V k * 2 ^ (64 * k) := Nat.le_mul_of_pos_left _ (Nat.pos_of_ne_zero h)
   have h2 := top_le_pw k hk
   omega
  rw [decide_eq_true h1, decide_eq_false h]; simp
theorem kindFlip_no (f b : Nat) (w : World) (cF : CK_ 92 #[.int .u8 f, BV b] (.bool false)) :
  CR_ 108 #[.int .u8 f, BV b] w (.agg #[.int .u64 0, .int .u64 0]) := by
 have H := Own.start w
 go_enter Tryz.func108, Tryz.ntmps108
 exact walk4
theorem kindFlip_yes (f b z : Nat) (w : World) (cF : CK_ 92 #[.int .u8 f, BV b] (.bool true)) (cZ : CK_ 78 #[.int .u8 f, .bool true] (BV z)) :
  CR_ 108 #[.int .u8 f, BV b] w (.agg #[.int .u64 (Go.bits .xor .u64 (limb b 1) (limb z 1)), .int .u64 (Go.bits .xor .u64 (limb b 0) (limb z 0))]) := by
 have H := Own.start w
 go_enter Tryz.func108, Tryz.ntmps108
 exact walk4
theorem jamRight_t (a b : Nat) (x : Int) (w : World) (hT : Tab w) (cR : CT_ 180 #[W a, .int .i64 x] (.tuple #[W b, .bool true])) :
  CR_ 102 #[W a, .int .i64 x] w (W (b ||| 1)) := by
 have H := Own.start w
 have HT := Lib.hid hT
 clear hT
 go_enter Tryz.func102, Tryz.ntmps102
 exact walk4
theorem jamRight_f (a b : Nat) (x : Int) (w : World) (hT : Tab w) (cR : CT_ 180 #[W a, .int .i64 x] (.tuple #[W b, .bool false])) :
  CR_ 102 #[W a, .int .i64 x] w (W b) := by
 have H := Own.start w
 have HT := Lib.hid hT
 clear hT
 go_enter Tryz.func102, Tryz.ntmps102
 exact walk4
theorem jamTop_left (a b l : Nat) (lo : Bool) (m : Int) (w : World) (hm : 381 - (l : Int) = m) (h0 : 0 ≤ m) (hl : l ≤ 384) (ha : a < top6) (ha0 : decide (a = 0) = false) (cL : CK_ 80 #[W a] (.int .i64 (l : Nat))) (cS : CK_ 101 #[W a, .int .i64 m] (.tuple #[W b, .bool lo])) :
  CR_ 186 #[W a, .int .i64 380] w (.tuple #[W b, .int .i64 m, .int .i64 0]) := by
 have H := Own.start w
 have eq1 : ∀ w, (Op.equalIn 10000 60 (.agg (limbs a)) (.agg #[.int .u64 0, .int .u64 0, .int .u64 0, .int .u64 0, .int .u64 0, .int .u64 0])).run Tryz.prog w = .ok false w := fun w => (run_equal_zero w a ha).trans (by rw [ha0])
 have v1 : IntKind.i64.wrap (381 - (l : Int)) = m := by rw [hm]; exact IntWalk.i64_in _ (by omega)
 have d1 : decide (m < 0) = false := by simp; omega
 clear ha ha0
 go_enter Tryz.func186, Tryz.ntmps186
 exact walk4
theorem limbN_xor (a b i : Nat) : limbN (a ^^^ b) i = limbN a i ^^^ limbN b i := by
 unfold limbN; rw [B64, Nat.xor_div_two_pow, Nat.xor_mod_two_pow]
theorem limb_xor (a b i : Nat) : Go.bits .xor .u64 (limb a i) (limb b i) = limb (a ^^^ b) i := by
 unfold limb; rw [u64_xor_nat _ _ (limbN_lt a i) (limbN_lt b i), limbN_xor]
theorem xor_top (x n : Nat) (h : x < 2 ^ n) : x ^^^ 2 ^ n = x + 2 ^ n := by
 have h1 : 2 ^ n ||| x = 2 ^ n + x := by
  have := Nat.two_pow_add_eq_or_of_lt h 1
  rw [Nat.mul_one] at this; exact this.symm
 rw [Nat.add_comm, ← h1]
 apply Nat.eq_of_testBit_eq
 intro i
 rw [Nat.testBit_xor, Nat.testBit_or, Nat.testBit_two_pow]
 by_cases hi : n = i
 ·subst hi; rw [Nat.testBit_lt_two_pow h]; simp
 ·simp [hi]
theorem flip_xor (f b : Nat) (h : fitsB f b = true) : b ^^^ zeroN f true = flipN f b := by
 obtain ⟨hf, hb⟩ := (fits_iff f b).1 h
 obtain ⟨h1, h2, h3, -⟩ := formK f hf
 have hz : zeroN f true = 2 ^ (wF f - 1) := by unfold zeroN signN; rw [decide_eq_true hf]; rfl
 have hm := mkN_of f b h
 have ht := Nat.mod_lt b (two_pos (pF f - 1))
 have he := expN_lt f b hf
 have hbase : expN f b * 2 ^ (pF f - 1) + b % 2 ^ (pF f - 1) < 2 ^ (wF f - 1) := by
  rw [h2, Nat.pow_add, h3, Nat.mul_comm (2 ^ (pF f - 1))]
  have : (expN f b + 1) * 2 ^ (pF f - 1) ≤ (2 * eF f + 2) * 2 ^ (pF f - 1) := Nat.mul_le_mul_right _ (by omega)
  rw [Nat.add_mul] at this; omega
 unfold flipN mkN
 rw [h, cond_true, hz]
 unfold mkN at hm
 unfold negN
 generalize expN f b * 2 ^ (pF f - 1) + b % 2 ^ (pF f - 1) = x at *
 have hx := xor_top x (wF f - 1) hbase
 cases hs : b.testBit (wF f - 1)
 ·rw [hs] at hm
  have : b = x := by rw [← hm]; rfl
  rw [this, hx]; rfl
 ·rw [hs] at hm
  have : b = x + 2 ^ (wF f - 1) := by rw [← hm]; rfl
  rw [this, ← hx, Nat.xor_assoc, Nat.xor_self, Nat.xor_zero]; rfl
theorem kindFlip_any (f b : Nat) (w : World) (hf : f < 256) (hb : b < 2 ^ (64 * 2)) :
  CR_ 108 #[.int .u8 f, BV b] w (BV (flipN f b)) := by
 have cF := fun w => shapeFits_any f b w hb
 cases h : fitsB f b
 ·rw [h] at cF
  have e : flipN f b = 0 := by unfold flipN; rw [h]; rfl
  rw [e, show BV 0 = .agg #[.int .u64 (limb 0 1), .int .u64 (limb 0 0)] from rfl, limb_zero, limb_zero]
  exact kindFlip_no f b w cF
 ·rw [h] at cF
  have cZ := fun w => shapeZero_any f true w hf
  refine (kindFlip_yes f b _ w cF cZ).mono ?_
  rintro e w' ⟨rfl, hb⟩
  refine ⟨?_, hb⟩
  rw [limb_xor, limb_xor, flip_xor f b h]
theorem jamRight_any (a : Nat) (x : Int) (w : World) (ha : a < top6) (hT : Tab w) :
  CR_ 102 #[W a, .int .i64 x] w (W (jamN a x.toNat)) := by
 have cR := fun w hT => wideRight_n a x w ha hT
 unfold jamN
 by_cases h : a % 2 ^ x.toNat = 0
 ·rw [if_pos h]
  rw [decide_eq_true h] at cR
  exact jamRight_f a _ x w hT cR
 ·rw [if_neg h]
  rw [decide_eq_false h] at cR
  exact jamRight_t a _ x w hT cR
theorem jamTop_any (a : Nat) (w : World) (ha : a < top6) (h0 : a ≠ 0) (hl : lenN a ≤ 381) :
  CR_ 186 #[W a, .int .i64 380] w (.tuple #[W (a * 2 ^ (381 - lenN a)), .int .i64 (381 - (lenN a : Int)), .int .i64 0]) := by
 have cS := fun w => wideLeft_any a (381 - (lenN a : Int)) w ha
 rw [show clip (381 - (lenN a : Int)) = 381 - lenN a by unfold clip; omega] at cS
 exact jamTop_left a _ (lenN a) _ _ w rfl (by omega) (by omega) ha (decide_eq_false h0) (fun w => wideLen_any a w ha) cS
theorem ext_12 (a : Nat) : (limbs12 a).extract 0 (0 + (limbs12 a).size) = limbs12 a := by rw [Nat.zero_add]; exact Array.extract_size
theorem limbs12_zero : limbs12 0 = #[.int .u64 0, .int .u64 0, .int .u64 0, .int .u64 0, .int .u64 0, .int .u64 0, .int .u64 0, .int .u64 0, .int .u64 0, .int .u64 0, .int .u64 0, .int .u64 0] := by
 unfold limbs12; simp only [limb_zero]
theorem tV_s : (Tryz.prog.info? 180).map (·.size) = some 12 := by kernel_rfl
theorem tV_z : (Tryz.prog.info? 180).bind (·.zero) = some (.agg (limbs12 0)) := by rw [limbs12_zero]; kernel_rfl
theorem rV : IsRow Tryz.prog 180 12 (limbs12 0) := ⟨⟨_, Tryz.underlying180, rfl⟩, tV_s, tV_z⟩
theorem run_index_w (a k : Nat) (hk : k < 6) (w : World) : (Instr.index 60 (.agg (limbs a)) (.int .i64 (k : Int))).run Tryz.prog w = .ok (.int .u64 (limb a k)) w := run_index_wide w a k hk
theorem run_index_12 (a k : Nat) (hk : k < 12) (w : World) : (Instr.index 180 (.agg (limbs12 a)) (.int .i64 (k : Int))).run Tryz.prog w = .ok (.int .u64 (limb a k)) w :=
 run_index_arr _ Tryz.underlying180 Tryz.isAgg25 Tryz.sizeOf25 hk (limbs12_get a k hk)
theorem set_12 (V j v : Nat) (hj : j < 12) (hv : v < 18446744073709551616) : setRow (limbs12 V) j (#[.int .u64 ((v : Nat) : Int)] : Array Value).toList = limbs12 (setL V j v) := limbs12_set V j v hj hv
theorem set_low (V k : Nat) (hk : k < 6) : setRow (limbs (V % 2 ^ (64 * k))) k (#[.int .u64 (limb V k)] : Array Value).toList = limbs (V % 2 ^ (64 * (k + 1))) := by
 rw [mod_low]; exact limbs_put _ _ k hk (Nat.mod_lt _ (pw_pos k)) (limbN_lt V k)
theorem over_low (V k : Nat) (hk : k ≤ 6) : decide (top6 ≤ V % 2 ^ (64 * k)) = false := by
 have h1 := Nat.mod_lt V (pw_pos k)
 have h2 : 2 ^ (64 * k) ≤ top6 := by rw [top6.eq_1]; exact pw_mono0 k 6 hk
 rw [decide_eq_false_iff_not]; omega
theorem prod_all (a b k : Nat) (hk : k = 12) (ha : a < top6) (hb : b < top6) : a * b % 2 ^ (64 * k) = a * b := by
 refine Nat.mod_eq_of_lt ?_
 have : a * b < top6 * top6 := Nat.mul_lt_mul'' ha hb
 have e : 2 ^ (64 * k) = top6 * top6 := by
  rw [show 64 * k = 64 * 6 + 64 * (k - 6) by omega, Nat.pow_add, ← top6.eq_1, show k - 6 = 6 by omega, ← top6.eq_1]
 rw [e]; exact this
theorem a_all (a : Nat) (ha : a < top6) (k : Nat) (hk : k = 6) : a % 2 ^ (64 * k) = a := Nat.mod_eq_of_lt (by rw [hk, ← top6.eq_1]; exact ha)
theorem wideMul_any (a b : Nat) (w0 : World) (ha : a < top6) (hb : b < top6) :
  CR_ 116 #[W a, W b] w0 (.tuple #[W (a * b), .bool (decide (top6 ≤ a * b))]) := by
 have H := Own.start w0
 have HA := Lib.hid ha
 have HB := Lib.hid hb
 clear ha hb
 go_enter Tryz.func116, Tryz.ntmps116
 go_wp2_with (first
  | ((with_reducible refine g6_ rfl rfl ?_); refine H.xb ?_; (intro ga w H; simp only [Act.put, q1_, q2_, q3_]))
  | ((with_reducible refine g10_ rfl rfl ?_); refine H.xb ?_; (intro gb w H; simp only [Act.put, q1_, q2_, q3_]))
  | ((with_reducible refine g4_ rfl rfl ?_); refine H.xa ?_; (intro gp w H; simp only [Act.put, q1_, q2_, q3_]))
  | ((with_reducible refine g16_ rfl rfl ?_); refine H.xa ?_; (intro gv w H; simp only [Act.put, q1_, q2_, q3_]))
  | ((with_reducible refine g0_ rfl ?_); refine H.xb ?_; (intro g w H; simp only [Act.put, q1_, q2_, q3_]))
  | ((with_reducible refine g1_ rfl ?_); refine H.xa ?_; (intro g w H; simp only [Act.put, q1_, q2_, q3_]))
  | ((with_reducible refine g2_ rfl ?_); (first | refine H.xl ?_ | refine H.xm ?_); simp only [Act.put, q1_, q2_, q3_])
  | ((with_reducible refine g3_ rfl ?_); (first | refine H.xs ?_ | refine H.xt ?_); (intro w H; simp only [Act.put]))
  )
 go_loopw [19] (fun i wr => ∃ (k V : Nat), k ≤ 6 ∧ i = .int .i64 k ∧ Hid (V = a % 2 ^ (64 * k) * b) ∧ Own w0 wr [(gv, 180, limbs12 V), (gp, 60, limbs 0), (gb, 60, limbs b), (ga, 60, limbs a)]) (fun i _ => 6 - (intOf i).toNat)
 case atStart => exact ⟨0, 0, by omega, rfl, Lib.hid (by rw [Nat.mul_zero, Nat.pow_zero, Nat.mod_one, Nat.zero_mul]), H⟩
 case round =>
  clear H
  obtain ⟨k, V, hk, rfl, hV, H⟩ := hrel
  by_cases hlt : k < 6
  ·have ix := run_index_w a k hlt
   have hd : decide ((k : Int) < 6) = true := by simp; omega
   go_wp2_with (first
  | ((with_reducible refine g6_ rfl rfl ?_); refine H.xb ?_; (intro ga w H; simp only [Act.put, q1_, q2_, q3_]))
  | ((with_reducible refine g10_ rfl rfl ?_); refine H.xb ?_; (intro gb w H; simp only [Act.put, q1_, q2_, q3_]))
  | ((with_reducible refine g4_ rfl rfl ?_); refine H.xa ?_; (intro gp w H; simp only [Act.put, q1_, q2_, q3_]))
  | ((with_reducible refine g16_ rfl rfl ?_); refine H.xa ?_; (intro gv w H; simp only [Act.put, q1_, q2_, q3_]))
  | ((with_reducible refine g0_ rfl ?_); refine H.xb ?_; (intro g w H; simp only [Act.put, q1_, q2_, q3_]))
  | ((with_reducible refine g1_ rfl ?_); refine H.xa ?_; (intro g w H; simp only [Act.put, q1_, q2_, q3_]))
  | ((with_reducible refine g2_ rfl ?_); (first | refine H.xl ?_ | refine H.xm ?_); simp only [Act.put, q1_, q2_, q3_])
  | ((with_reducible refine g3_ rfl ?_); (first | refine H.xs ?_ | refine H.xt ?_); (intro w H; simp only [Act.put]))
  )
   go_loopw [9, 24] (fun v i wr => ∃ (j c V : Nat), j ≤ 6 ∧ i = .int .i64 j ∧ v = .int .u64 (c : Nat) ∧ Hid (MulAt a b k j V c) ∧ Hid (∀ i, k + 6 ≤ i → limbN V i = 0) ∧ Own w0 wr [(gv, 180, limbs12 V), (gp, 60, limbs 0), (gb, 60, limbs b), (ga, 60, limbs a)]) (fun _ i _ => 6 - (intOf i).toNat)
   case atStart => exact ⟨0, 0, V, by omega, rfl, rfl, Lib.hid (mul_start a b k V hV.out), Lib.hid (fun i hi => mul_high a b k V hV.out HB.out i hi), H⟩
   case round =>
    clear H hV V ix
    obtain ⟨j, c, V, hj, rfl, rfl, hM, hZ, H⟩ := hrel
    by_cases hjt : j < 6
    ·have iy := run_index_w b j hjt
     have hc : c < 18446744073709551616 := hM.out.2
     have hmac := mac_words (limbN a k) (limbN b j) (limbN V (k + j)) c (limbN_lt _ _) (limbN_lt _ _) (limbN_lt _ _) hc
     have hlow : macN (limbN a k) (limbN b j) (limbN V (k + j)) c % 18446744073709551616 < 18446744073709551616 := Nat.mod_lt _ (by decide)
     have M1 := mul_step a b k j V c hM.out
     generalize macN (limbN a k) (limbN b j) (limbN V (k + j)) c % 18446744073709551616 = lo2 at hlow hmac M1
     generalize macN (limbN a k) (limbN b j) (limbN V (k + j)) c / 18446744073709551616 = hi2 at hmac M1
     have M2 := Lib.hid M1
     have Z2 := Lib.hid (setL_high V (k + j) lo2 (k + 6) hlow (by omega) hZ.out)
     have w0' : IsW 0 := ⟨by decide, by decide⟩
     have wc : IsW (c : Int) := ⟨by omega, by omega⟩
     have hx : limb V (k + j) = ((limbN V (k + j) : Nat) : Int) := rfl
     have hadd : ∀ x y c, IsW x → IsW y → IsW (addW x y c) := by
      intro x y c _ _; unfold IsW addW; omega
     have wl : IsW (mulLo (limb a k) (limb b j)) := by unfold mulLo IsW; have := Nat.mod_lt ((limb a k).toNat * (limb b j).toNat) (show 0 < 18446744073709551616 by decide); omega
     have wh : IsW (mulHi (limb a k) (limb b j)) := by
      have h1 : (limb a k).toNat < 18446744073709551616 := by unfold limb; rw [Int.toNat_natCast]; exact limbN_lt _ _
      have h2 : (limb b j).toNat < 18446744073709551616 := by unfold limb; rw [Int.toNat_natCast]; exact limbN_lt _ _
      have h3 : (limb a k).toNat * (limb b j).toNat ≤ 18446744073709551615 * 18446744073709551615 := Nat.mul_le_mul (by omega) (by omega)
      unfold mulHi IsW; omega
     have cM := fun w => wordMul_any (limb a k) (limb b j) w (limb_w a k) (limb_w b j)
     have c1 := fun w => wordAdd_any (mulLo (limb a k) (limb b j)) (limb V (k + j)) false w wl (limb_w _ _)
     have c2 := fun w => wordAdd_any (mulHi (limb a k) (limb b j)) 0 (carW (mulLo (limb a k) (limb b j)) (limb V (k + j)) false) w wh w0'
     have c3 := fun w => wordAdd_any (addW (mulLo (limb a k) (limb b j)) (limb V (k + j)) false) (c : Int) false w (hadd _ _ _ wl (limb_w _ _)) wc
     have c4 := fun w => wordAdd_any (addW (mulHi (limb a k) (limb b j)) 0 (carW (mulLo (limb a k) (limb b j)) (limb V (k + j)) false)) 0 (carW (addW (mulLo (limb a k) (limb b j)) (limb V (k + j)) false) (c : Int) false) w (hadd _ _ _ wh w0') w0'
     unfold limb at cM c1 c2 c3 c4
     rw [hmac.1] at c3
     rw [hmac.2] at c4
     have e1 : limb V (k + j) = ((limbN V (k + j) : Nat) : Int) := rfl
     rw [← hx] at c1 c2 c3 c4
     have ea : ((limbN a k : Nat) : Int) = limb a k := rfl
     have eb : ((limbN b j : Nat) : Int) = limb b j := rfl
     rw [ea, eb] at cM c1 c2 c3 c4
     generalize mulLo (limb a k) (limb b j) = lo0 at cM c1 c2 c3 c4
     generalize mulHi (limb a k) (limb b j) = hi0 at cM c2 c4
     generalize carW lo0 (limb V (k + j)) false = q1 at c1 c2 c4
     generalize carW (addW lo0 (limb V (k + j)) false) (c : Int) false = q2 at c3 c4
     generalize addW lo0 (limb V (k + j)) false = lo1 at c1 c3
     generalize addW hi0 0 q1 = hi1 at c2 c4
     generalize carW hi0 0 q1 = q3 at c2
     generalize carW hi1 0 q2 = q4 at c4
     clear M1 hmac hadd wl wh w0' wc hx ea eb e1 hM hZ hc
     have G12 : (limbs12 V)[k + j]? = some (.int .u64 (limb V (k + j))) := limbs12_get V (k + j) (by omega)
     go_wp2_with (first
  | ((with_reducible refine g7_ rfl ?_); refine H.xm ?_ (hv := by first | with_reducible exact G12); simp only [Act.put, q1_, q2_, q3_])
  | ((with_reducible refine g8_ rfl ?_); refine H.xt ?_ (hv := set_12 _ _ _ (by omega) hlow); (intro w H; simp only [Act.put]))
  | ((with_reducible refine g0_ rfl ?_); refine H.xb ?_; (intro g w H; simp only [Act.put, q1_, q2_, q3_]))
  | ((with_reducible refine g1_ rfl ?_); refine H.xa ?_; (intro g w H; simp only [Act.put, q1_, q2_, q3_]))
  | ((with_reducible refine g2_ rfl ?_); (first | refine H.xl ?_ | refine H.xm ?_); simp only [Act.put, q1_, q2_, q3_])
  | ((with_reducible refine g3_ rfl ?_); (first | refine H.xs ?_ | refine H.xt ?_); (intro w H; simp only [Act.put]))
  | (go_at_call 185; ((with_reducible refine (cM _).mono ?_); rintro e w' ⟨rfl, rfl⟩))
  | (go_at_call 181; ((with_reducible refine (c1 _).mono ?_); rintro e w' ⟨rfl, rfl⟩))
  | (go_at_call 181; ((with_reducible refine (c2 _).mono ?_); rintro e w' ⟨rfl, rfl⟩))
  | (go_at_call 181; ((with_reducible refine (c3 _).mono ?_); rintro e w' ⟨rfl, rfl⟩))
  | (go_at_call 181; ((with_reducible refine (c4 _).mono ?_); rintro e w' ⟨rfl, rfl⟩))
  )
     all_goals
      go_roundw
      case rel => exact ⟨j + 1, _, _, by omega, by go_num, rfl, M2, Z2, H⟩
      case measure => simp [intOf]; omega
    ·have : j = 6 := by omega
     subst this
     have hc : c < 18446744073709551616 := hM.out.2
     have R := Lib.hid (mul_row a b k V c hM.out HB.out (hZ.out (k + 6) (by omega)))
     clear hM hZ hjt
     go_wp2_with (first
  | ((with_reducible refine g8_ rfl ?_); refine H.xt ?_ (hv := set_12 _ _ _ (by omega) hc); (intro w H; simp only [Act.put]))
  | ((with_reducible refine g0_ rfl ?_); refine H.xb ?_; (intro g w H; simp only [Act.put, q1_, q2_, q3_]))
  | ((with_reducible refine g1_ rfl ?_); refine H.xa ?_; (intro g w H; simp only [Act.put, q1_, q2_, q3_]))
  | ((with_reducible refine g2_ rfl ?_); (first | refine H.xl ?_ | refine H.xm ?_); simp only [Act.put, q1_, q2_, q3_])
  | ((with_reducible refine g3_ rfl ?_); (first | refine H.xs ?_ | refine H.xt ?_); (intro w H; simp only [Act.put]))
  )
     all_goals
      go_roundw
      case rel => exact ⟨k + 1, _, by omega, by go_num, R, H⟩
      case measure => simp [intOf]; omega
  ·have hk6 : k = 6 := by omega
   subst hk6
   have hV2 : V = a * b := by have := hV.out; rw [a_all a HA.out 6 rfl] at this; exact this
   subst hV2
   clear hV hlt hk
   go_wp2_with (first
  | ((with_reducible refine g6_ rfl rfl ?_); refine H.xb ?_; (intro ga w H; simp only [Act.put, q1_, q2_, q3_]))
  | ((with_reducible refine g10_ rfl rfl ?_); refine H.xb ?_; (intro gb w H; simp only [Act.put, q1_, q2_, q3_]))
  | ((with_reducible refine g4_ rfl rfl ?_); refine H.xa ?_; (intro gp w H; simp only [Act.put, q1_, q2_, q3_]))
  | ((with_reducible refine g16_ rfl rfl ?_); refine H.xa ?_; (intro gv w H; simp only [Act.put, q1_, q2_, q3_]))
  | ((with_reducible refine g0_ rfl ?_); refine H.xb ?_; (intro g w H; simp only [Act.put, q1_, q2_, q3_]))
  | ((with_reducible refine g1_ rfl ?_); refine H.xa ?_; (intro g w H; simp only [Act.put, q1_, q2_, q3_]))
  | ((with_reducible refine g2_ rfl ?_); (first | refine H.xl ?_ | refine H.xm ?_); simp only [Act.put, q1_, q2_, q3_])
  | ((with_reducible refine g3_ rfl ?_); (first | refine H.xs ?_ | refine H.xt ?_); (intro w H; simp only [Act.put]))
  )
   go_loopw [5, 75] (fun o i wr => ∃ (j : Nat), j ≤ 12 ∧ i = .int .i64 j ∧ o = .bool (decide (top6 ≤ a * b % 2 ^ (64 * j))) ∧ Own w0 wr [(gv, 180, limbs12 (a * b)), (gp, 60, limbs (a * b % 2 ^ (64 * min j 6))), (gb, 60, limbs b), (ga, 60, limbs a)]) (fun _ i _ => 12 - (intOf i).toNat)
   case atStart =>
    refine ⟨0, by omega, rfl, by rw [over_low (a * b) 0 (by decide)], ?_⟩
    rw [Nat.zero_min, Nat.mul_zero, Nat.pow_zero, Nat.mod_one]; exact H
   case round =>
    clear H
    obtain ⟨j, hj, rfl, rfl, H⟩ := hrel
    by_cases hjt : j < 12
    ·have iz := run_index_12 (a * b) j hjt
     by_cases h6 : j < 6
     ·have eo := over_low (a * b) (j + 1) (by omega)
      have eo0 := over_low (a * b) j (by omega)
      rw [Nat.min_eq_left (by omega : j ≤ 6)] at H
      rw [eo0]
      clear eo0
      go_wp2_with (first
  | ((with_reducible refine g8_ rfl ?_); refine H.xt ?_ (hv := set_low _ _ h6); (intro w H; simp only [Act.put]))
  | ((with_reducible refine g0_ rfl ?_); refine H.xb ?_; (intro g w H; simp only [Act.put, q1_, q2_, q3_]))
  | ((with_reducible refine g1_ rfl ?_); refine H.xa ?_; (intro g w H; simp only [Act.put, q1_, q2_, q3_]))
  | ((with_reducible refine g2_ rfl ?_); (first | refine H.xl ?_ | refine H.xm ?_); simp only [Act.put, q1_, q2_, q3_])
  | ((with_reducible refine g3_ rfl ?_); (first | refine H.xs ?_ | refine H.xt ?_); (intro w H; simp only [Act.put]))
  )
      all_goals
       go_roundw
       case rel => exact ⟨j + 1, by omega, by go_num, by rw [eo], by rw [Nat.min_eq_left (by omega : j + 1 ≤ 6)]; exact H⟩
       case measure => simp [intOf]; omega
     ·have os := Lib.hid (over_step (a * b) j (by omega))
      rw [Nat.min_eq_right (by omega : 6 ≤ j)] at H
      by_cases hz : limbN (a * b) j = 0
      ·have z : limb (a * b) j = 0 := by unfold limb; rw [hz]; rfl
       rw [z] at iz
       have HZ := Lib.hid hz
       clear z hz
       go_wp2_with (first
  | ((with_reducible refine g6_ rfl rfl ?_); refine H.xb ?_; (intro ga w H; simp only [Act.put, q1_, q2_, q3_]))
  | ((with_reducible refine g10_ rfl rfl ?_); refine H.xb ?_; (intro gb w H; simp only [Act.put, q1_, q2_, q3_]))
  | ((with_reducible refine g4_ rfl rfl ?_); refine H.xa ?_; (intro gp w H; simp only [Act.put, q1_, q2_, q3_]))
  | ((with_reducible refine g16_ rfl rfl ?_); refine H.xa ?_; (intro gv w H; simp only [Act.put, q1_, q2_, q3_]))
  | ((with_reducible refine g0_ rfl ?_); refine H.xb ?_; (intro g w H; simp only [Act.put, q1_, q2_, q3_]))
  | ((with_reducible refine g1_ rfl ?_); refine H.xa ?_; (intro g w H; simp only [Act.put, q1_, q2_, q3_]))
  | ((with_reducible refine g2_ rfl ?_); (first | refine H.xl ?_ | refine H.xm ?_); simp only [Act.put, q1_, q2_, q3_])
  | ((with_reducible refine g3_ rfl ?_); (first | refine H.xs ?_ | refine H.xt ?_); (intro w H; simp only [Act.put]))
  )
       all_goals
        go_roundw
        case rel => exact ⟨j + 1, by omega, by go_num, by rw [os.out, decide_eq_true HZ.out]; simp, by rw [Nat.min_eq_right (by omega : 6 ≤ j + 1)]; exact H⟩
        case measure => simp [intOf]; omega
      ·have z : (limb (a * b) j != 0) = true := by unfold limb; simpa using hz
       have HZ := Lib.hid hz
       clear hz
       go_wp2_with (first
  | ((with_reducible refine g6_ rfl rfl ?_); refine H.xb ?_; (intro ga w H; simp only [Act.put, q1_, q2_, q3_]))
  | ((with_reducible refine g10_ rfl rfl ?_); refine H.xb ?_; (intro gb w H; simp only [Act.put, q1_, q2_, q3_]))
  | ((with_reducible refine g4_ rfl rfl ?_); refine H.xa ?_; (intro gp w H; simp only [Act.put, q1_, q2_, q3_]))
  | ((with_reducible refine g16_ rfl rfl ?_); refine H.xa ?_; (intro gv w H; simp only [Act.put, q1_, q2_, q3_]))
  | ((with_reducible refine g0_ rfl ?_); refine H.xb ?_; (intro g w H; simp only [Act.put, q1_, q2_, q3_]))
  | ((with_reducible refine g1_ rfl ?_); refine H.xa ?_; (intro g w H; simp only [Act.put, q1_, q2_, q3_]))
  | ((with_reducible refine g2_ rfl ?_); (first | refine H.xl ?_ | refine H.xm ?_); simp only [Act.put, q1_, q2_, q3_])
  | ((with_reducible refine g3_ rfl ?_); (first | refine H.xs ?_ | refine H.xt ?_); (intro w H; simp only [Act.put]))
  )
       all_goals
        go_roundw
        case rel => exact ⟨j + 1, by omega, by go_num, by rw [os.out, decide_eq_false HZ.out]; simp, by rw [Nat.min_eq_right (by omega : 6 ≤ j + 1)]; exact H⟩
        case measure => simp [intOf]; omega
    ·have hj12 : j = 12 := by omega
     have E := Lib.hid (prod_all a b j hj12 HA.out HB.out)
     rw [Nat.min_eq_right (by omega : 6 ≤ j), limbs_mod6] at H
     rw [E.out]
     subst hj12
     clear E
     go_wp2_with (first
  | ((with_reducible refine g0_ rfl ?_); refine H.xb ?_; (intro g w H; simp only [Act.put, q1_, q2_, q3_]))
  | ((with_reducible refine g1_ rfl ?_); refine H.xa ?_; (intro g w H; simp only [Act.put, q1_, q2_, q3_]))
  | ((with_reducible refine g2_ rfl ?_); (first | refine H.xl ?_ | refine H.xm ?_); simp only [Act.put, q1_, q2_, q3_])
  | ((with_reducible refine g3_ rfl ?_); (first | refine H.xs ?_ | refine H.xt ?_); (intro w H; simp only [Act.put]))
  )
     refine bodyPost_ret (results_ct rfl rfl (H.res rW v2_ (ext_limbs _) (by rfl))) rfl ⟨?_, H.below⟩
     rfl
def fmaOut (n1 n2 n3 i1 i2 i3 z1 z2 z3 q : Bool) (vN vC vI vc vZ vP vS : Value) : Value :=
 if (i1 && z2 || i2 && z1) = true then vN
 else if (n1 || n2 || n3) = true then vC
 else if (i1 || i2) = true then (if (i3 && !q) = true then vN else vI)
 else if i3 = true then vc
 else if ((z1 || z2) && z3) = true then (if q = true then vc else vZ)
 else if (z1 || z2) = true then vc
 else if z3 = true then vP else vS
end Go.Proofs.YtgmhmpflmgfcdaaGreatDoor
