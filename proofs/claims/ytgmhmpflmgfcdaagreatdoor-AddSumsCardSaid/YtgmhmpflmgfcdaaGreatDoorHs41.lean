/- Part 41 of what is proved: Pco, Pkj, Lm, Kfs, Kfj, Wsub, Wcmp, Ad0, Ad1, Ad2, Ad3. -/
import Derived.Deep.RegionWith
import Derived.Deep.RegionHeld3
import Derived.Deep.QuietTactic
import Derived.BigQuiet
import Derived.StillTailTactics
import Derived.Outline
import Derived.Test.YtgmhmpflmgfcdaaGreatDoorHs3
import Derived.Test.YtgmhmpflmgfcdaaGreatDoorHs4
import Derived.Test.YtgmhmpflmgfcdaaGreatDoorHs5
import Derived.Test.YtgmhmpflmgfcdaaGreatDoorHs6
import Derived.Test.YtgmhmpflmgfcdaaGreatDoorHs7
import Derived.Test.YtgmhmpflmgfcdaaGreatDoorHs8
import Derived.Test.YtgmhmpflmgfcdaaGreatDoorHs31
import Derived.Test.YtgmhmpflmgfcdaaGreatDoorHs36
import Derived.Test.YtgmhmpflmgfcdaaGreatDoorHs38
import Derived.Test.YtgmhmpflmgfcdaaGreatDoorHs39
import Derived.Test.YtgmhmpflmgfcdaaGreatDoorHs40
set_option linter.unusedSimpArgs false
set_option linter.unusedVariables false
set_option linter.unnecessarySimpa false
set_option maxRecDepth 100000
set_option maxHeartbeats 3200000
namespace Go.Proofs.YtgmhmpflmgfcdaaGreatDoor
open Go.RowKit
theorem roundPack_over2_f (f m s p l E k lk o : Nat) (e top lo : Int) (neg ex : Bool) (w : World) (hT : Tab w) (hp : p ≤ 113) (h1 : -1048576 ≤ e) (h2 : e ≤ 1048576) (hl4 : l ≤ 384) (cP : CK_ 79 #[.int .u8 f] (.int .i64 (p : Nat))) (cR : ∀ w, Calls Tryz.prog 140 #[.int .u8 f, .int .u8 m] w fun e w' => e = .returned (.bool true) ∧ w = w') (cL : CK_ 80 #[W s] (.int .i64 (l : Nat))) (hs : s < top6) (hs0 : decide (s = 0) = false) (htop : (l : Int) - 1 + e = top) (l1 : -20000 ≤ lo) (l2 : lo ≤ 20000) (t1 : -1100000 ≤ top) (t2 : top ≤ 1100000) (hE : E ≤ 16383) (cE : CK_ 141 #[.int .u8 f] (.int .i64 lo)) (cX : CK_ 142 #[.int .u8 f] (.int .i64 (E : Nat))) (hlk : lk ≤ 384) (hov : ¬ (E : Int) < top) (hov2 : (E : Int) < (lk : Int) - 1 + (max top lo - (p : Int) + 1)) (cG : CT_ 144 #[.int .u8 m, RV neg s e false, .int .i64 (max top lo - (p : Int) + 1)] (.tuple #[W k, .bool ex])) (cK : CK_ 80 #[W k] (.int .i64 (lk : Nat))) (cO : CK_ 143 #[.int .u8 f, .int .u8 m, .bool neg] (.tuple #[BV o, .int .u8 5, .int .i64 0]))  :
  CR_ 61 #[.int .u8 f, .int .u8 m, RV neg s e false] w (.tuple #[BV o, .int .u8 5, .int .i64 0]) := by
 have H := Own.start w
 have HT := Lib.hid hT
 clear hT
 have he2 : decide (e < -1048576) = false := by simp; omega
 have he3 : decide (1048576 < e) = false := by simp; omega
 have eq1 : ∀ w, (Op.equalIn 10000 60 (.agg (limbs s)) (.agg #[.int .u64 0, .int .u64 0, .int .u64 0, .int .u64 0, .int .u64 0, .int .u64 0])).run Tryz.prog w = .ok false w := fun w => (run_equal_zero w s hs).trans (by rw [hs0])
 have v1 : IntKind.i64.wrap ((l : Int) - 1) = (l : Int) - 1 := IntWalk.i64_in _ (by omega)
 have v2 : IntKind.i64.wrap ((l : Int) - 1 + e) = top := by rw [htop]; exact IntWalk.i64_in _ (by omega)
 clear hs hs0 htop
 have hov3 : decide ((E : Int) < top) = false := by simp; omega
 have hov4 : decide ((E : Int) < (lk : Int) - 1 + (max top lo - (p : Int) + 1)) = true := by simp only [decide_eq_true_eq]; exact hov2
 go_enter Tryz.func61, Tryz.ntmps61
 exact walk1
theorem roundPack_over2_t (f m s p l E k lk o : Nat) (e top lo : Int) (neg ex : Bool) (w : World) (hT : Tab w) (hp : p ≤ 113) (h1 : -1048576 ≤ e) (h2 : e ≤ 1048576) (hl4 : l ≤ 384) (hl : ¬ l < p + 2) (cP : CK_ 79 #[.int .u8 f] (.int .i64 (p : Nat))) (cR : ∀ w, Calls Tryz.prog 140 #[.int .u8 f, .int .u8 m] w fun e w' => e = .returned (.bool true) ∧ w = w') (cL : CK_ 80 #[W s] (.int .i64 (l : Nat))) (hs : s < top6) (hs0 : decide (s = 0) = false) (htop : (l : Int) - 1 + e = top) (l1 : -20000 ≤ lo) (l2 : lo ≤ 20000) (t1 : -1100000 ≤ top) (t2 : top ≤ 1100000) (hE : E ≤ 16383) (cE : CK_ 141 #[.int .u8 f] (.int .i64 lo)) (cX : CK_ 142 #[.int .u8 f] (.int .i64 (E : Nat))) (hlk : lk ≤ 384) (hov : ¬ (E : Int) < top) (hov2 : (E : Int) < (lk : Int) - 1 + (max top lo - (p : Int) + 1)) (cG : CT_ 144 #[.int .u8 m, RV neg s e true, .int .i64 (max top lo - (p : Int) + 1)] (.tuple #[W k, .bool ex])) (cK : CK_ 80 #[W k] (.int .i64 (lk : Nat))) (cO : CK_ 143 #[.int .u8 f, .int .u8 m, .bool neg] (.tuple #[BV o, .int .u8 5, .int .i64 0]))  :
  CR_ 61 #[.int .u8 f, .int .u8 m, RV neg s e true] w (.tuple #[BV o, .int .u8 5, .int .i64 0]) := by
 have H := Own.start w
 have HT := Lib.hid hT
 clear hT
 have he2 : decide (e < -1048576) = false := by simp; omega
 have he3 : decide (1048576 < e) = false := by simp; omega
 have hl2 : decide ((l : Int) < (p : Int) + 2) = false := by simp; omega
 have eq1 : ∀ w, (Op.equalIn 10000 60 (.agg (limbs s)) (.agg #[.int .u64 0, .int .u64 0, .int .u64 0, .int .u64 0, .int .u64 0, .int .u64 0])).run Tryz.prog w = .ok false w := fun w => (run_equal_zero w s hs).trans (by rw [hs0])
 have v1 : IntKind.i64.wrap ((l : Int) - 1) = (l : Int) - 1 := IntWalk.i64_in _ (by omega)
 have v2 : IntKind.i64.wrap ((l : Int) - 1 + e) = top := by rw [htop]; exact IntWalk.i64_in _ (by omega)
 clear hs hs0 htop
 have hov3 : decide ((E : Int) < top) = false := by simp; omega
 have hov4 : decide ((E : Int) < (lk : Int) - 1 + (max top lo - (p : Int) + 1)) = true := by simp only [decide_eq_true_eq]; exact hov2
 go_enter Tryz.func61, Tryz.ntmps61
 exact walk1
theorem roundTiny_any (f m s : Nat) (e top : Int) (neg mo : Bool) (w : World) (hT : Tab w) (hf : f < 4) (hm : m < 5) (hs : s < top6) (hs0 : s ≠ 0) (h1 : -1048576 ≤ e) (h2 : e ≤ 1048576) (ht : (lenN s : Int) - 1 + e = top) :
  CR_ 145 #[.int .u8 f, .int .u8 m, RV neg s e mo, .int .i64 top] w (.bool (tinyB f m neg s e mo top)) := by
 have hK := formK f hf
 have hp := pF_113 f
 have hl := lenN_pos s hs0
 have hl4 : lenN s ≤ 384 := (lenN_le s 384).2 (by rw [show 384 = 64 * 6 from rfl, ← top6.eq_1]; exact hs)
 have cE := fun w => shapeEmin_any f w (by omega)
 have cP := fun w => shapePrecision_any f w (by omega)
 unfold tinyB
 by_cases hq : top = eminI f - 1
 ·rw [if_pos hq]
  have hk := gridN_le m s (pF f) neg mo e (top - pF f + 1) (by omega)
  have cG := fun w hT => roundGrid_any m s e (top - pF f + 1) neg mo w hT (by omega) hs (by omega) (by omega) (by omega) (by omega) (by omega)
  have cK := fun w => wideLen_any (gridN m neg s e mo (top - pF f + 1)).1 w (lt_top114 _ _ hp hk)
  exact roundTiny_eq f m s (pF f) _ _ e top (eminI f) _ neg mo _ w hT hp (by omega) (by omega) (by omega) (by omega) (by rw [hq, beq_self_eq_true]) rfl cE cP cG cK
 ·rw [if_neg hq]
  exact roundTiny_ne f m s (pF f) e top (eminI f) neg mo w hT hp (by omega) (by omega) (by omega) (by omega) (by rw [beq_eq_false_iff_ne]; exact hq) cE cP
theorem roundPack_any (f m s : Nat) (e : Int) (neg mo : Bool) (w : World) (hT : Tab w) (hf : f < 256) (hm : m < 256) (hs : s < top6) :
  CR_ 61 #[.int .u8 f, .int .u8 m, RV neg s e mo] w (.tuple #[BV (packN f m neg s e mo).1, .int .u8 ((packN f m neg s e mo).2.1 : Nat), .int .i64 (packN f m neg s e mo).2.2]) := by
 have hp := pF_113 f
 have hl4 : lenN s ≤ 384 := (lenN_le s 384).2 (by rw [show 384 = 64 * 6 from rfl, ← top6.eq_1]; exact hs)
 have cP := fun w => shapePrecision_any f w hf
 have cR := fun w => roundRight_any f m w hf hm
 have cL := fun w => wideLen_any s w hs
 have cZ := fun w => shapeZero_any f neg w hf
 by_cases hr : (decide (f < 4) && decide (m < 5)) = true
 case neg =>
  have hr' : (decide (f < 4) && decide (m < 5)) = false := by cases h : (decide (f < 4) && decide (m < 5)) <;> simp_all
  have hN : packN f m neg s e mo = (0, 0, 2) := by unfold packN packOk; rw [hr']; simp only [Bool.false_and, Bool.false_eq_true, if_false]
  rw [hN]
  rw [hr'] at cR
  exact roundPack_right f m s _ e neg mo w hp cP cR
 rw [hr] at cR
 have hf4 : f < 4 := by simp only [Bool.and_eq_true, decide_eq_true_eq] at hr; exact hr.1
 have hm5 : m < 5 := by simp only [Bool.and_eq_true, decide_eq_true_eq] at hr; exact hr.2
 by_cases he1 : e < -1048576
 ·have hN : packN f m neg s e mo = (0, 0, 2) := by unfold packN packOk; rw [decide_eq_false (show ¬ -1048576 ≤ e by omega)]; simp only [Bool.and_false, Bool.false_and, Bool.false_eq_true, if_false]
  rw [hN]
  exact roundPack_low f m s _ e neg mo w hp he1 cP cR
 by_cases he2 : 1048576 < e
 ·have hN : packN f m neg s e mo = (0, 0, 2) := by unfold packN packOk; rw [decide_eq_false (show ¬ e ≤ 1048576 by omega)]; simp only [Bool.and_false, Bool.false_and, Bool.false_eq_true, if_false]
  rw [hN]
  exact roundPack_high f m s _ e neg mo w hp he2 cP cR
 by_cases hmo : (mo && decide (lenN s < pF f + 2)) = true
 ·have hN : packN f m neg s e mo = (0, 0, 2) := by unfold packN packOk; rw [hmo]; simp only [Bool.not_true, Bool.and_false, Bool.false_eq_true, if_false]
  rw [hN]
  have ht : mo = true := by cases mo <;> simp_all
  subst ht
  exact roundPack_more f m s (pF f) (lenN s) e neg w hp (by omega) (by omega) (by simpa using hmo) hl4 cP cR cL
 have hmo' : (mo && decide (lenN s < pF f + 2)) = false := by cases h : (mo && decide (lenN s < pF f + 2)) <;> simp_all
 have hok : packOk f m s e mo = true := by
  unfold packOk
  rw [hr, hmo', decide_eq_true (show -1048576 ≤ e by omega), decide_eq_true (show e ≤ 1048576 by omega)]; rfl
 have hl : mo = true → ¬ lenN s < pF f + 2 := by intro ht; subst ht; simpa using hmo'
 by_cases hz : s = 0
 ·have hN : packN f m neg s e mo = (zeroN f neg, 0, 0) := by unfold packN; rw [if_pos hok, if_pos hz]
  rw [hN]
  cases mo with
  | false => exact roundPack_zero_f f m s (pF f) (lenN s) _ e neg w hT hp (by omega) (by omega) hl4 cP cR cL hs (decide_eq_true hz) cZ
  | true => exact roundPack_zero_t f m s (pF f) (lenN s) _ e neg w hT hp (by omega) (by omega) hl4 (hl rfl) cP cR cL hs (decide_eq_true hz) cZ
 have hN : packN f m neg s e mo = ((packB f m neg s e mo).1, (packB f m neg s e mo).2, 0) := by unfold packN; rw [if_pos hok, if_neg hz]
 rw [hN]
 have hK := formK f hf4
 have hl1 := lenN_pos s hz
 have cE := fun w => shapeEmin_any f w hf
 have cX := fun w => shapeEmax_any f w hf
 have cO := fun w => roundOver_any f m neg w hf4 hm5
 obtain ⟨top, htop⟩ : ∃ top, (lenN s : Int) - 1 + e = top := ⟨_, rfl⟩
 have hz' := decide_eq_false hz
 unfold packB
 rw [htop]
 by_cases hov : (eF f : Int) < top
 ·rw [if_pos hov]
  cases mo with
  | false => exact roundPack_over_f f m s (pF f) (lenN s) (eF f) _ e top (eminI f) neg w hT hp (by omega) (by omega) hl4 cP cR cL hs hz' htop (by omega) (by omega) (by omega) (by omega) (by omega) cE cX hov cO
  | true => exact roundPack_over_t f m s (pF f) (lenN s) (eF f) _ e top (eminI f) neg w hT hp (by omega) (by omega) hl4 (hl rfl) cP cR cL hs hz' htop (by omega) (by omega) (by omega) (by omega) (by omega) cE cX hov cO
 rw [if_neg hov]
 have hat : atN f top = max top (eminI f) - (pF f : Int) + 1 := rfl
 have hk := gridN_le m s (pF f) neg mo e (atN f top) (by rw [hat]; omega)
 have cG := fun w hT => roundGrid_any m s e (atN f top) neg mo w hT hm hs (by omega) (by omega) (by rw [hat]; omega) (by rw [hat]; omega) (by rw [hat]; omega)
 have cT := fun w hT => roundTiny_any f m s e top neg mo w hT hf4 hm5 hs hz (by omega) (by omega) htop
 obtain ⟨k, ex, hg⟩ : ∃ k ex, gridN m neg s e mo (atN f top) = (k, ex) := ⟨_, _, rfl⟩
 rw [hg] at cG hk ⊢
 rw [hat] at cG
 have hk' : k ≤ 2 ^ pF f := hk
 have hkt := lt_top114 k _ hp hk'
 have hkl := lenN_le_of k _ hk'
 have cK := fun w => wideLen_any k w hkt
 by_cases hov2 : (eF f : Int) < lenN k - 1 + atN f top
 ·rw [if_pos hov2]
  rw [hat] at hov2
  cases mo with
  | false => exact roundPack_over2_f f m s (pF f) (lenN s) (eF f) k (lenN k) _ e top (eminI f) neg ex w hT hp (by omega) (by omega) hl4 cP cR cL hs hz' htop (by omega) (by omega) (by omega) (by omega) (by omega) cE cX (by omega) hov hov2 cG cK cO
  | true => exact roundPack_over2_t f m s (pF f) (lenN s) (eF f) k (lenN k) _ e top (eminI f) neg ex w hT hp (by omega) (by omega) hl4 (hl rfl) cP cR cL hs hz' htop (by omega) (by omega) (by omega) (by omega) (by omega) cE cX (by omega) hov hov2 cG cK cO
 rw [if_neg hov2]
 rw [hat] at hov2
 obtain ⟨d, hd⟩ : ∃ d : Nat, d = (max top (eminI f) - eminI f).toNat := ⟨_, rfl⟩
 have hd1 : max top (eminI f) - (pF f : Int) + 1 - eminI f + (pF f : Int) - 1 = (d : Int) := by omega
 have hd2 : (atN f top - eminI f + pF f - 1).toNat = d := by rw [hat]; omega
 have hen := enc_lt f k d hf4 hk' (by omega)
 have cOf := fun w => wideOf_any d w (by omega)
 rw [← hd1] at cOf
 have cLf := fun w => wideLeft_any d ((pF f : Int) - 1) w (lt_top_bits d (by omega))
 have hcl : clip ((pF f : Int) - 1) = pF f - 1 := by unfold clip; omega
 rw [hcl] at cLf
 have cAd := fun w => wideAdd_any (d * 2 ^ (pF f - 1)) k w
 have hw : 2 ^ (wF f - 1) ≤ 2 ^ (64 * 2) := Nat.pow_le_pow_right (by decide) (by rcases forms f with rfl | rfl | rfl | rfl | h <;> first | decide | omega)
 have cB := fun w => wideToBits_any (d * 2 ^ (pF f - 1) + k) w (Nat.lt_of_lt_of_le hen hw)
 have hzn : zeroN f neg = signN f neg := by unfold zeroN; rw [decide_eq_true hf4, cond_true]
 have hor : (d * 2 ^ (pF f - 1) + k) ||| zeroN f neg = encN f neg k (atN f top) := by
  rw [hzn, or_sign f _ neg hen]; unfold encN; rw [hd2]
 have fin : ∀ fl : Value, Ending.returned (.tuple #[.agg #[.int .u64 (Go.bits .or .u64 (limb (d * 2 ^ (pF f - 1) + k) 1) (limb (zeroN f neg) 1)), .int .u64 (Go.bits .or .u64 (limb (d * 2 ^ (pF f - 1) + k) 0) (limb (zeroN f neg) 0))], fl, .int .i64 0]) = .returned (.tuple #[BV (encN f neg k (atN f top)), fl, .int .i64 0]) := by
  intro fl
  have h := pair_or (d * 2 ^ (pF f - 1) + k) (zeroN f neg)
  rw [hor] at h
  injection h with h
  rw [h]
 cases ex with
 | true =>
  simp only [cond_true]
  cases mo with
  | false =>
   refine (roundPack_x_f f m s (pF f) (lenN s) (eF f) k (lenN k) _ d _ _ _ e top (eminI f) neg _ _ _ w hT hp (by omega) (by omega) hl4 cP cR cL hs hz' htop (by omega) (by omega) (by omega) (by omega) (by omega) cE cX (by omega) hov hov2 cG cK cOf cLf cAd cB cZ).mono ?_
   intro e' w' ⟨he, hb⟩
   exact ⟨he.trans (fin _), hb⟩
  | true =>
   refine (roundPack_x_t f m s (pF f) (lenN s) (eF f) k (lenN k) _ d _ _ _ e top (eminI f) neg _ _ _ w hT hp (by omega) (by omega) hl4 (hl rfl) cP cR cL hs hz' htop (by omega) (by omega) (by omega) (by omega) (by omega) cE cX (by omega) hov hov2 cG cK cOf cLf cAd cB cZ).mono ?_
   intro e' w' ⟨he, hb⟩
   exact ⟨he.trans (fin _), hb⟩
 | false =>
  simp only [cond_false]
  cases hty : tinyB f m neg s e mo top with
  | false =>
   rw [hty] at cT
   simp only [cond_false]
   cases mo with
   | false =>
    refine (roundPack_i_f f m s (pF f) (lenN s) (eF f) k (lenN k) _ d _ _ _ e top (eminI f) neg _ _ _ w hT hp (by omega) (by omega) hl4 cP cR cL hs hz' htop (by omega) (by omega) (by omega) (by omega) (by omega) cE cX (by omega) hov hov2 cG cK cOf cLf cAd cB cZ cT).mono ?_
    intro e' w' ⟨he, hb⟩
    exact ⟨he.trans (fin _), hb⟩
   | true =>
    refine (roundPack_i_t f m s (pF f) (lenN s) (eF f) k (lenN k) _ d _ _ _ e top (eminI f) neg _ _ _ w hT hp (by omega) (by omega) hl4 (hl rfl) cP cR cL hs hz' htop (by omega) (by omega) (by omega) (by omega) (by omega) cE cX (by omega) hov hov2 cG cK cOf cLf cAd cB cZ cT).mono ?_
    intro e' w' ⟨he, hb⟩
    exact ⟨he.trans (fin _), hb⟩
  | true =>
   rw [hty] at cT
   simp only [cond_true]
   cases mo with
   | false =>
    refine (roundPack_u_f f m s (pF f) (lenN s) (eF f) k (lenN k) _ d _ _ _ e top (eminI f) neg _ _ _ w hT hp (by omega) (by omega) hl4 cP cR cL hs hz' htop (by omega) (by omega) (by omega) (by omega) (by omega) cE cX (by omega) hov hov2 cG cK cOf cLf cAd cB cZ cT).mono ?_
    intro e' w' ⟨he, hb⟩
    exact ⟨he.trans (fin _), hb⟩
   | true =>
    refine (roundPack_u_t f m s (pF f) (lenN s) (eF f) k (lenN k) _ d _ _ _ e top (eminI f) neg _ _ _ w hT hp (by omega) (by omega) hl4 (hl rfl) cP cR cL hs hz' htop (by omega) (by omega) (by omega) (by omega) (by omega) cE cX (by omega) hov hov2 cG cK cOf cLf cAd cB cZ cT).mono ?_
    intro e' w' ⟨he, hb⟩
    exact ⟨he.trans (fin _), hb⟩
theorem limbN_pow (i j : Nat) : limbN (2 ^ i) j = if j = i / 64 then 2 ^ (i % 64) else 0 := by
 have h64 : 2 ^ (i % 64) < 18446744073709551616 := by rw [B64]; exact Nat.pow_lt_pow_right (by decide) (Nat.mod_lt _ (by decide))
 have hp : 2 ^ i = 0 + 2 ^ (i % 64) * 2 ^ (64 * (i / 64)) := by
  rw [Nat.zero_add, ← Nat.pow_add]; congr 1; omega
 have := limbN_put 0 (2 ^ (i % 64)) (i / 64) j (pw_pos _) h64
 rw [← hp] at this
 rw [this]
 have h0 : limbN 0 j = 0 := by unfold limbN; rw [Nat.zero_div]
 rw [h0]
theorem limbs_or_bit (q i : Nat) (hi : i < 384) : (limbs q).setIfInBounds (i / 64) (.int .u64 (Go.bits .or .u64 (limb q (i / 64)) ((2 ^ (i % 64) : Nat) : Int))) = limbs (q ||| 2 ^ i) := by
 have key : ∀ j, limb (q ||| 2 ^ i) j = if j = i / 64 then Go.bits .or .u64 (limb q (i / 64)) ((2 ^ (i % 64) : Nat) : Int) else limb q j := by
  intro j
  rw [← limb_or]
  unfold limb
  rw [limbN_pow i j]
  split
  ·rename_i h; rw [h]
  ·rw [u64_or_nat _ _ (limbN_lt q j) (by decide), Nat.or_zero]
 apply Array.ext_getElem?
 intro j
 by_cases hj : j < 6
 ·rw [limbs_get _ j hj, Array.getElem?_setIfInBounds, key j]
  by_cases h : i / 64 = j
  ·rw [if_pos h, if_pos (by rw [limbs_size]; omega), if_pos h.symm]
  ·rw [if_neg h, if_neg (fun e => h e.symm)]; exact limbs_get q j hj
 ·rw [Array.getElem?_eq_none (by rw [Array.size_setIfInBounds, limbs_size]; omega), Array.getElem?_eq_none (by rw [limbs_size]; omega)]
theorem limbs_or1 (x : Nat) : (limbs x).setIfInBounds 0 (.int .u64 (Go.bits .or .u64 (limb x 0) 1)) = limbs (x ||| 1) := limbs_or_bit x 0 (by decide)
theorem set_or1 (x : Nat) : setRow (limbs x) 0 (#[.int .u64 (Go.bits .or .u64 (limb x 0) 1)] : Array Value).toList = limbs (x ||| 1) := limbs_or1 x
theorem kindFlip_no (f b : Nat) (w : World) (cF : CK_ 92 #[.int .u8 f, BV b] (.bool false)) :
  CR_ 108 #[.int .u8 f, BV b] w (.agg #[.int .u64 0, .int .u64 0]) := by
 have H := Own.start w
 go_enter Tryz.func108, Tryz.ntmps108
 exact walk3
theorem kindFlip_yes (f b z : Nat) (w : World) (cF : CK_ 92 #[.int .u8 f, BV b] (.bool true)) (cZ : CK_ 78 #[.int .u8 f, .bool true] (BV z)) :
  CR_ 108 #[.int .u8 f, BV b] w (.agg #[.int .u64 (Go.bits .xor .u64 (limb b 1) (limb z 1)), .int .u64 (Go.bits .xor .u64 (limb b 0) (limb z 0))]) := by
 have H := Own.start w
 go_enter Tryz.func108, Tryz.ntmps108
 exact walk3
theorem jamRight_t (a b : Nat) (x : Int) (w : World) (hT : Tab w) (cR : CT_ 180 #[W a, .int .i64 x] (.tuple #[W b, .bool true])) :
  CR_ 102 #[W a, .int .i64 x] w (W (b ||| 1)) := by
 have H := Own.start w
 have HT := Lib.hid hT
 clear hT
 go_enter Tryz.func102, Tryz.ntmps102
 exact walk3
theorem jamRight_f (a b : Nat) (x : Int) (w : World) (hT : Tab w) (cR : CT_ 180 #[W a, .int .i64 x] (.tuple #[W b, .bool false])) :
  CR_ 102 #[W a, .int .i64 x] w (W b) := by
 have H := Own.start w
 have HT := Lib.hid hT
 clear hT
 go_enter Tryz.func102, Tryz.ntmps102
 exact walk3
theorem limbN_xor (a b i : Nat) : limbN (a ^^^ b) i = limbN a i ^^^ limbN b i := by
 unfold limbN; rw [B64, Nat.xor_div_two_pow, Nat.xor_mod_two_pow]
theorem limb_xor (a b i : Nat) : Go.bits .xor .u64 (limb a i) (limb b i) = limb (a ^^^ b) i := by
 unfold limb; rw [u64_xor_nat _ _ (limbN_lt a i) (limbN_lt b i), limbN_xor]
theorem xor_top (x n : Nat) (h : x < 2 ^ n) : x ^^^ 2 ^ n = x + 2 ^ n := by
 have h1 : 2 ^ n ||| x = 2 ^ n + x := by
  have := Nat.two_pow_add_eq_or_of_lt h 1
  rw [Nat.mul_one] at this; exact this.symm
 rw [Nat.add_comm, ← h1]
 apply Nat.eq_of_testBit_eq
 intro i
 rw [Nat.testBit_xor, Nat.testBit_or, Nat.testBit_two_pow]
 by_cases hi : n = i
 ·subst hi; rw [Nat.testBit_lt_two_pow h]; simp
 ·simp [hi]
theorem flip_xor (f b : Nat) (h : fitsB f b = true) : b ^^^ zeroN f true = flipN f b := by
 obtain ⟨hf, hb⟩ := (fits_iff f b).1 h
 obtain ⟨h1, h2, h3, -⟩ := formK f hf
 have hz : zeroN f true = 2 ^ (wF f - 1) := by unfold zeroN signN; rw [decide_eq_true hf]; rfl
 have hm := mkN_of f b h
 have ht := Nat.mod_lt b (two_pos (pF f - 1))
 have he := expN_lt f b hf
 have hbase : expN f b * 2 ^ (pF f - 1) + b % 2 ^ (pF f - 1) < 2 ^ (wF f - 1) := by
  rw [h2, Nat.pow_add, h3, Nat.mul_comm (2 ^ (pF f - 1))]
  have : (expN f b + 1) * 2 ^ (pF f - 1) ≤ (2 * eF f + 2) * 2 ^ (pF f - 1) := Nat.mul_le_mul_right _ (by omega)
  rw [Nat.add_mul] at this; omega
 unfold flipN mkN
 rw [h, cond_true, hz]
 unfold mkN at hm
 unfold negN
 generalize expN f b * 2 ^ (pF f - 1) + b % 2 ^ (pF f - 1) = x at *
 have hx := xor_top x (wF f - 1) hbase
 cases hs : b.testBit (wF f - 1)
 ·rw [hs] at hm
  have : b = x := by rw [← hm]; rfl
  rw [this, hx]; rfl
 ·rw [hs] at hm
  have : b = x + 2 ^ (wF f - 1) := by rw [← hm]; rfl
  rw [this, ← hx, Nat.xor_assoc, Nat.xor_self, Nat.xor_zero]; rfl
theorem kindFlip_any (f b : Nat) (w : World) (hf : f < 256) (hb : b < 2 ^ (64 * 2)) :
  CR_ 108 #[.int .u8 f, BV b] w (BV (flipN f b)) := by
 have cF := fun w => shapeFits_any f b w hb
 cases h : fitsB f b
 ·rw [h] at cF
  have e : flipN f b = 0 := by unfold flipN; rw [h]; rfl
  rw [e, show BV 0 = .agg #[.int .u64 (limb 0 1), .int .u64 (limb 0 0)] from rfl, limb_zero, limb_zero]
  exact kindFlip_no f b w cF
 ·rw [h] at cF
  have cZ := fun w => shapeZero_any f true w hf
  refine (kindFlip_yes f b _ w cF cZ).mono ?_
  rintro e w' ⟨rfl, hb⟩
  refine ⟨?_, hb⟩
  rw [limb_xor, limb_xor, flip_xor f b h]
theorem jamRight_any (a : Nat) (x : Int) (w : World) (ha : a < top6) (hT : Tab w) :
  CR_ 102 #[W a, .int .i64 x] w (W (jamN a x.toNat)) := by
 have cR := fun w hT => wideRight_n a x w ha hT
 unfold jamN
 by_cases h : a % 2 ^ x.toNat = 0
 ·rw [if_pos h]
  rw [decide_eq_true h] at cR
  exact jamRight_f a _ x w hT cR
 ·rw [if_neg h]
  rw [decide_eq_false h] at cR
  exact jamRight_t a _ x w hT cR
theorem subW_nat (x y d : Nat) (c : Bool) (hx : x < 18446744073709551616) (hy : y < 18446744073709551616) (hd : d < 18446744073709551616) (h : (d + y + c.toNat) % 18446744073709551616 = x) : subW (x : Int) (y : Int) c = (d : Int) := by
 unfold subW; cases c <;> simp at h ⊢ <;> omega
theorem borW_nat (x y d : Nat) (c : Bool) (hx : x < 18446744073709551616) (hy : y < 18446744073709551616) (hd : d < 18446744073709551616) (h : (d + y + c.toNat) % 18446744073709551616 = x) : borW (x : Int) (y : Int) c = decide (18446744073709551616 ≤ d + y + c.toNat) := by
 unfold borW; rw [Bool.eq_iff_iff, decide_eq_true_iff, decide_eq_true_iff]; cases c <;> simp at h ⊢ <;> omega
def subN (a b : Nat) : Nat := a + top6 - b
theorem limbN_top (a i : Nat) (h : i < 6) : limbN (a + top6) i = limbN a i := by
 have e : top6 = 2 ^ (64 * i) * (18446744073709551616 * 2 ^ (64 * (5 - i))) := by
  unfold top6
  rw [show 64 * 6 = 64 * i + (64 + 64 * (5 - i)) by omega, Nat.pow_add, Nat.pow_add]
 unfold limbN
 rw [e, Nat.add_mul_div_left _ _ (pw_pos i), Nat.add_mul_mod_self_left]
theorem sub_word (a b k : Nat) (hb : b < top6) (hk : k < 6) : (limbN (subN a b) k + limbN b k + (cbit (subN a b) b k).toNat) % 18446744073709551616 = limbN a k := by
 have h1 := sum_step (subN a b) b k
 rw [mod_low] at h1
 have e : subN a b + b = a + top6 := by unfold subN; omega
 have h2 : limbN (subN a b + b) k = limbN a k := by rw [e, limbN_top a k hk]
 rw [← h2]
 have h3 : limbN (subN a b + b) k * 2 ^ (64 * k) = (limbN (subN a b) k + limbN b k + (cbit (subN a b) b k).toNat) % 18446744073709551616 * 2 ^ (64 * k) := by omega
 exact (Nat.eq_of_mul_eq_mul_right (pw_pos k) h3).symm
theorem limbs_sub (a b : Nat) (h : b ≤ a) : limbs (subN a b) = limbs (a - b) := by
 apply limbs_eq
 intro i hi
 rw [← limbN_top (a - b) i hi]
 unfold subN
 rw [show a + top6 - b = a - b + top6 by omega]
theorem sub_limb (a b k : Nat) (cb : Bool) (hb : b < top6) (hk : k < 6) (h : cbit (subN a b) b k = cb) : subW (limb a k) (limb b k) cb = limb (subN a b) k := by
 unfold limb
 exact subW_nat _ _ _ _ (limbN_lt a k) (limbN_lt b k) (limbN_lt _ k) (by rw [← h]; exact sub_word a b k hb hk)
theorem sub_borrow (a b k : Nat) (cb : Bool) (hb : b < top6) (hk : k < 6) (h : cbit (subN a b) b k = cb) : cbit (subN a b) b (k + 1) = borW (limb a k) (limb b k) cb := by
 unfold limb
 rw [borW_nat _ _ _ _ (limbN_lt a k) (limbN_lt b k) (limbN_lt _ k) (by rw [← h]; exact sub_word a b k hb hk), cbit_step, h]
theorem wideSub_any (a b : Nat) (w : World) (hbt : b < top6) :
  CR_ 105 #[W a, W b] w (.tuple #[W (subN a b), .bool (cbit (subN a b) b 6)]) := by
 have HT := Lib.hid hbt
 clear hbt
 have sa := limbs_size a
 have sb := limbs_size b
 go_enter Tryz.func105, Tryz.ntmps105
 go_wp2_with fail
 go_loopw [5, 7] (fun c i wr => ∃ (k : Nat) (cb : Bool), k ≤ 6 ∧ i = .int .i64 k ∧ c = .bool cb ∧ Hid (cbit (subN a b) b k = cb) ∧
   Blk 60 wr w.heap.size (limbs a) ∧ Blk 60 wr (w.heap.size + 1) (limbs b) ∧
   Blk 60 wr (w.heap.size + 1 + 1) (fillTo (limbs 0) (fun i => .int .u64 (limb (subN a b) i)) k) ∧ Below w.heap.size w wr) (fun _ i _ => 6 - (intOf i).toNat)
 case atStart =>
  refine ⟨0, false, by omega, rfl, rfl, cbit_zero _ b, ((Blk.new w _).alloc _).alloc _, ?_, ?_, ((((Below.refl _ _).alloc (Nat.le_refl _) _).alloc (by simp) _).alloc (by simp <;> omega) _)⟩
  ·have := (Blk.new (T := 60) (w.alloc (.cells (limbs a) 60)) (limbs b)).alloc (.cells #[.int .u64 0, .int .u64 0, .int .u64 0, .int .u64 0, .int .u64 0, .int .u64 0] 60)
   simpa using this
  ·have := Blk.new (T := 60) ((w.alloc (.cells (limbs a) 60)).alloc (.cells (limbs b) 60)) #[.int .u64 0, .int .u64 0, .int .u64 0, .int .u64 0, .int .u64 0, .int .u64 0]
   rw [fillTo, limbs_zero]
   simpa using this
 case round =>
  obtain ⟨k, cb, hk, rfl, rfl, hc, ha, hb, hs, hbel⟩ := hrel
  by_cases hlt : k < 6
  ·have ca := ha.cell k (limbs_get a k hlt)
   have cb' := hb.cell k (limbs_get b k hlt)
   have cs := hs.cell k ((fillTo_hi _ _ k k (Nat.le_refl _)).trans (limbs_get 0 k hlt))
   have fs := hs.free k
   go_wp2_with fail
   go_region_with (go_at_call 182; refine (wordSub_any _ _ _ _ (limb_w a k) (limb_w b k)).mono ?_; rintro e w' ⟨rfl, rfl⟩)
   all_goals go_wp2
   all_goals
    go_roundw
    case rel => exact ⟨k + 1, _, by omega, by go_num, rfl, sub_borrow a b k cb HT.out (by omega) hc.out, (ha.other _ _ (by simp; omega)).drew, (hb.other _ _ (by simp)).drew, (hs.set k _ (by rw [sub_limb a b k cb HT.out (by omega) hc.out]; rfl)).drew, (hbel.setCell (by simp; omega) _).drew⟩
    case measure => simp [intOf]; omega
  ·have : k = 6 := by omega
   subst this
   rw [fillTo_all (limbs 0) _ (subN a b) rfl (fun i _ => rfl)] at hs
   have c0 := hs.cell 0 (limbs_get _ 0 (by decide))
   have c1 := hs.cell 1 (limbs_get _ 1 (by decide))
   have c2 := hs.cell 2 (limbs_get _ 2 (by decide))
   have c3 := hs.cell 3 (limbs_get _ 3 (by decide))
   have c4 := hs.cell 4 (limbs_get _ 4 (by decide))
   have c5 := hs.cell 5 (limbs_get _ 5 (by decide))
   have f0 := hs.free 0
   have f1 := hs.free 1
   have f2 := hs.free 2
   have f3 := hs.free 3
   have f4 := hs.free 4
   have f5 := hs.free 5
   clear ha hb hlt
   go_wp2_with fail
   rw [hs.keep 0 _ (limbs_get _ 0 (by decide)), hs.keep 1 _ (limbs_get _ 1 (by decide)), hs.keep 2 _ (limbs_get _ 2 (by decide)), hs.keep 3 _ (limbs_get _ 3 (by decide)), hs.keep 4 _ (limbs_get _ 4 (by decide)), hs.keep 5 _ (limbs_get _ 5 (by decide))]
   refine bodyPost_ret (v := .tuple #[W (subN a b), .bool cb]) (by simp [results, Tryz.results105, go_sem, c0, c1, c2, c3, c4, c5, limbs]) rfl ⟨by rw [hc.out], hbel⟩
theorem div_step (a k : Nat) : a / 2 ^ (64 * k) = a / 2 ^ (64 * (k + 1)) * 18446744073709551616 + limbN a k := by
 unfold limbN
 rw [pw_succ, ← Nat.div_div_eq_div_mul]
 have := Nat.div_add_mod (a / 2 ^ (64 * k)) 18446744073709551616
 omega
theorem cmp_less (a b k : Nat) (h : a / 2 ^ (64 * (k + 1)) = b / 2 ^ (64 * (k + 1))) (hl : limbN a k < limbN b k) : a < b := by
 have h1 := div_step a k
 have h2 := div_step b k
 rw [h] at h1
 rcases Nat.lt_or_ge a b with hab | hab
 ·exact hab
 ·have := Nat.div_le_div_right (c := 2 ^ (64 * k)) hab
  omega
theorem cmp_same (a b k : Nat) (h : a / 2 ^ (64 * (k + 1)) = b / 2 ^ (64 * (k + 1))) (hl : limbN a k = limbN b k) : a / 2 ^ (64 * k) = b / 2 ^ (64 * k) := by
 rw [div_step a k, div_step b k, h, hl]
def EqFrom (a b k : Nat) : Prop := a / 2 ^ (64 * k) = b / 2 ^ (64 * k)
theorem eqFrom6 {a b : Nat} (ha : a < top6) (hb : b < top6) : EqFrom a b 6 := by
 unfold top6 at ha hb
 unfold EqFrom
 rw [Nat.div_eq_of_lt ha, Nat.div_eq_of_lt hb]
theorem below_drewN {B : Nat} {w w' : World} (h : Below B w w') (n : Nat) : Below B w (w'.drewN n) := ⟨h.os, h.tape, h.output, h.size, h.block⟩
theorem limb_lt (a b k : Nat) : limb a k < limb b k ↔ limbN a k < limbN b k := by unfold limb; omega
theorem wideCmp_any (a b : Nat) (w : World) (ha : a < top6) (hb : b < top6) :
  CR_ 46 #[W a, W b] w (.int .i64 (cmpN a b)) := by
 have sa := limbs_size a
 have sb := limbs_size b
 have E6 := eqFrom6 ha hb
 clear ha hb
 go_enter Tryz.func46, Tryz.ntmps46
 go_wp2_with fail
 go_loopw [5] (fun i wr => ∃ k : Nat, k ≤ 6 ∧ i = .int .i64 ((k : Int) - 1) ∧ EqFrom a b k ∧ Blk 60 wr w.heap.size (limbs a) ∧ Blk 60 wr (w.heap.size + 1) (limbs b) ∧ Below w.heap.size w wr) (fun i _ => (intOf i + 1).toNat)
 case atStart =>
  refine ⟨6, by omega, rfl, E6, (Blk.new w _).alloc _, ?_, ((Below.refl _ _).alloc (Nat.le_refl _) _).alloc (by simp) _⟩
  have := Blk.new (T := 60) (w.alloc (.cells (limbs a) 60)) (limbs b)
  simpa using this
 case round =>
  obtain ⟨k, hk, rfl, hE, hA, hB, hbel⟩ := hrel
  cases k with
  | zero =>
   have Z := Lib.hid (show (0 : Int) = cmpN a b by
    have : a = b := by have := hE; unfold EqFrom at this; simpa using this
    unfold cmpN; rw [if_neg (by omega), if_neg (by omega)])
   clear hE
   go_wp2_with fail
   go_ret
   exact ⟨ret_int Z.out, hbel⟩
  | succ j =>
   have ca := hA.cell j (limbs_get a j (by omega))
   have cb := hB.cell j (limbs_get b j (by omega))
   rw [show ((j + 1 : Nat) : Int) - 1 = (j : Int) by omega]
   by_cases h1 : limb a j < limb b j
   ·have Z := Lib.hid (show (-1 : Int) = cmpN a b by
     have := cmp_less a b j hE ((limb_lt a b j).1 h1)
     unfold cmpN; rw [if_pos this])
    have d1 : decide (limb a j < limb b j) = true := decide_eq_true h1
    clear hE
    go_wp2_with fail
    go_quiet (fail)
    go_wp2_with fail
    go_ret
    exact ⟨ret_int Z.out, below_drewN hbel _⟩
   ·have d1 : decide (limb a j < limb b j) = false := decide_eq_false h1
    by_cases h2 : limb b j < limb a j
    ·have Z := Lib.hid (show (1 : Int) = cmpN a b by
      have := cmp_less b a j hE.symm ((limb_lt b a j).1 h2)
      unfold cmpN; rw [if_neg (by omega), if_pos this])
     have d2 : decide (limb b j < limb a j) = true := decide_eq_true h2
     clear hE h1
     go_wp2_with fail
     go_quiet (fail)
     go_wp2_with fail
     go_quiet (fail)
     go_wp2_with fail
     go_ret
     exact ⟨ret_int Z.out, below_drewN (below_drewN hbel _) _⟩
    ·have d2 : decide (limb b j < limb a j) = false := decide_eq_false h2
     have S : EqFrom a b j := cmp_same a b j hE (by unfold limb at h1 h2; omega)
     clear hE h1 h2
     go_wp2_with fail
     go_quiet (fail)
     go_wp2_with fail
     go_quiet (fail)
     go_wp2_with fail
     go_roundw
     case rel => exact ⟨j, by omega, rfl, S, hA, hB, below_drewN hbel _⟩
     case measure => simp [intOf]
theorem set_rw (n : Bool) (s : Nat) (e : Int) (mo n2 : Bool) (s2 : Nat) (e2 : Int) (mo2 : Bool) : setRow (rough n s e mo) 0 (rough n2 s2 e2 mo2).toList = rough n2 s2 e2 mo2 := set_all _ _ rfl
theorem addAdd_no (f m a b : Nat) (c1 s1 f1 : Nat) (x1 : Int) (c2 s2 f2 : Nat) (x2 : Int) (c3 s3 f3 : Nat) (x3 : Int) (w : World) (hT : Tab w) (cO : ∀ w g, Tab w → Blk 27 w g (cat2 (bc a) (bc b)) → CR_ 96 #[.int .u8 f, .int .u8 m, .slice (some ⟨g, 0, none⟩) 2 2] w (.tuple #[.agg (tri c1 s1 x1 f1 c2 s2 x2 f2 c3 s3 x3 f3), .bool false])) :
  CR_ 26 #[.int .u8 f, .int .u8 m, BV a, BV b] w (.tuple #[BV 0, .int .u8 0, .int .i64 2]) := by
 have H := Own.start w
 have HT := Lib.hid hT
 clear hT
 go_enter Tryz.func26, Tryz.ntmps26
 exact walk1
theorem addAdd_N1 (f m a b : Nat) (c1 s1 f1 : Nat) (x1 : Int) (c2 s2 f2 : Nat) (x2 : Int) (c3 s3 f3 : Nat) (x3 : Int) (w : World) (hT : Tab w) (cO : ∀ w g, Tab w → Blk 27 w g (cat2 (bc a) (bc b)) → CR_ 96 #[.int .u8 f, .int .u8 m, .slice (some ⟨g, 0, none⟩) 2 2] w (.tuple #[.agg (tri c1 s1 x1 f1 c2 s2 x2 f2 c3 s3 x3 f3), .bool true])) (cn1 : CK_ 97 #[PV c1 s1 x1 f1] (.bool true)) (cn : Nat) (fl : Int) (cC : ∀ w g, Blk 100 w g (cat2 (parts c1 s1 x1 f1) (parts c2 s2 x2 f2)) → CR_ 98 #[.int .u8 f, .slice (some ⟨g, 0, none⟩) 2 2] w (.tuple #[BV cn, .int .u8 fl, .int .i64 0])) :
  CR_ 26 #[.int .u8 f, .int .u8 m, BV a, BV b] w (.tuple #[BV cn, .int .u8 fl, .int .i64 0]) := by
 have H := Own.start w
 have HT := Lib.hid hT
 clear hT
 go_enter Tryz.func26, Tryz.ntmps26
 exact walk1
theorem addAdd_N2 (f m a b : Nat) (c1 s1 f1 : Nat) (x1 : Int) (c2 s2 f2 : Nat) (x2 : Int) (c3 s3 f3 : Nat) (x3 : Int) (w : World) (hT : Tab w) (cO : ∀ w g, Tab w → Blk 27 w g (cat2 (bc a) (bc b)) → CR_ 96 #[.int .u8 f, .int .u8 m, .slice (some ⟨g, 0, none⟩) 2 2] w (.tuple #[.agg (tri c1 s1 x1 f1 c2 s2 x2 f2 c3 s3 x3 f3), .bool true])) (cn1 : CK_ 97 #[PV c1 s1 x1 f1] (.bool false)) (cn2 : CK_ 97 #[PV c2 s2 x2 f2] (.bool true)) (cn : Nat) (fl : Int) (cC : ∀ w g, Blk 100 w g (cat2 (parts c1 s1 x1 f1) (parts c2 s2 x2 f2)) → CR_ 98 #[.int .u8 f, .slice (some ⟨g, 0, none⟩) 2 2] w (.tuple #[BV cn, .int .u8 fl, .int .i64 0])) :
  CR_ 26 #[.int .u8 f, .int .u8 m, BV a, BV b] w (.tuple #[BV cn, .int .u8 fl, .int .i64 0]) := by
 have H := Own.start w
 have HT := Lib.hid hT
 clear hT
 go_enter Tryz.func26, Tryz.ntmps26
 exact walk1
theorem addAdd_IIs (f m a b : Nat) (c1 s1 f1 : Nat) (x1 : Int) (c2 s2 f2 : Nat) (x2 : Int) (c3 s3 f3 : Nat) (x3 : Int) (w : World) (hT : Tab w) (cO : ∀ w g, Tab w → Blk 27 w g (cat2 (bc a) (bc b)) → CR_ 96 #[.int .u8 f, .int .u8 m, .slice (some ⟨g, 0, none⟩) 2 2] w (.tuple #[.agg (tri c1 s1 x1 f1 c2 s2 x2 f2 c3 s3 x3 f3), .bool true])) (cn1 : CK_ 97 #[PV c1 s1 x1 f1] (.bool false)) (cn2 : CK_ 97 #[PV c2 s2 x2 f2] (.bool false)) (ci1 : CK_ 99 #[PV c1 s1 x1 f1] (.bool true)) (ci2 : CK_ 99 #[PV c2 s2 x2 f2] (.bool true)) (cz1 : CK_ 100 #[PV c1 s1 x1 f1] (.bool false)) (cz2 : CK_ 100 #[PV c2 s2 x2 f2] (.bool false)) (he : ((c1 : Int) == (c2 : Int)) = true)  :
  CR_ 26 #[.int .u8 f, .int .u8 m, BV a, BV b] w (.tuple #[BV a, .int .u8 0, .int .i64 0]) := by
 have H := Own.start w
 have HT := Lib.hid hT
 clear hT
 go_enter Tryz.func26, Tryz.ntmps26
 exact walk1
theorem addAdd_IId (f m a b : Nat) (c1 s1 f1 : Nat) (x1 : Int) (c2 s2 f2 : Nat) (x2 : Int) (c3 s3 f3 : Nat) (x3 : Int) (w : World) (hT : Tab w) (cO : ∀ w g, Tab w → Blk 27 w g (cat2 (bc a) (bc b)) → CR_ 96 #[.int .u8 f, .int .u8 m, .slice (some ⟨g, 0, none⟩) 2 2] w (.tuple #[.agg (tri c1 s1 x1 f1 c2 s2 x2 f2 c3 s3 x3 f3), .bool true])) (cn1 : CK_ 97 #[PV c1 s1 x1 f1] (.bool false)) (cn2 : CK_ 97 #[PV c2 s2 x2 f2] (.bool false)) (ci1 : CK_ 99 #[PV c1 s1 x1 f1] (.bool true)) (ci2 : CK_ 99 #[PV c2 s2 x2 f2] (.bool true)) (cz1 : CK_ 100 #[PV c1 s1 x1 f1] (.bool false)) (cz2 : CK_ 100 #[PV c2 s2 x2 f2] (.bool false)) (he : ((c1 : Int) == (c2 : Int)) = false) (nn : Nat) (cNN : CK_ 76 #[.int .u8 f] (BV nn)) :
  CR_ 26 #[.int .u8 f, .int .u8 m, BV a, BV b] w (.tuple #[BV nn, .int .u8 16, .int .i64 0]) := by
 have H := Own.start w
 have HT := Lib.hid hT
 clear hT
 go_enter Tryz.func26, Tryz.ntmps26
 exact walk1
theorem addAdd_IF (f m a b : Nat) (c1 s1 f1 : Nat) (x1 : Int) (c2 s2 f2 : Nat) (x2 : Int) (c3 s3 f3 : Nat) (x3 : Int) (w : World) (hT : Tab w) (cO : ∀ w g, Tab w → Blk 27 w g (cat2 (bc a) (bc b)) → CR_ 96 #[.int .u8 f, .int .u8 m, .slice (some ⟨g, 0, none⟩) 2 2] w (.tuple #[.agg (tri c1 s1 x1 f1 c2 s2 x2 f2 c3 s3 x3 f3), .bool true])) (cn1 : CK_ 97 #[PV c1 s1 x1 f1] (.bool false)) (cn2 : CK_ 97 #[PV c2 s2 x2 f2] (.bool false)) (ci1 : CK_ 99 #[PV c1 s1 x1 f1] (.bool true)) (ci2 : CK_ 99 #[PV c2 s2 x2 f2] (.bool false)) (cz1 : CK_ 100 #[PV c1 s1 x1 f1] (.bool false)) (cz2 : CK_ 100 #[PV c2 s2 x2 f2] (.bool false))  :
  CR_ 26 #[.int .u8 f, .int .u8 m, BV a, BV b] w (.tuple #[BV a, .int .u8 0, .int .i64 0]) := by
 have H := Own.start w
 have HT := Lib.hid hT
 clear hT
 go_enter Tryz.func26, Tryz.ntmps26
 exact walk1
theorem addAdd_IZ (f m a b : Nat) (c1 s1 f1 : Nat) (x1 : Int) (c2 s2 f2 : Nat) (x2 : Int) (c3 s3 f3 : Nat) (x3 : Int) (w : World) (hT : Tab w) (cO : ∀ w g, Tab w → Blk 27 w g (cat2 (bc a) (bc b)) → CR_ 96 #[.int .u8 f, .int .u8 m, .slice (some ⟨g, 0, none⟩) 2 2] w (.tuple #[.agg (tri c1 s1 x1 f1 c2 s2 x2 f2 c3 s3 x3 f3), .bool true])) (cn1 : CK_ 97 #[PV c1 s1 x1 f1] (.bool false)) (cn2 : CK_ 97 #[PV c2 s2 x2 f2] (.bool false)) (ci1 : CK_ 99 #[PV c1 s1 x1 f1] (.bool true)) (ci2 : CK_ 99 #[PV c2 s2 x2 f2] (.bool false)) (cz1 : CK_ 100 #[PV c1 s1 x1 f1] (.bool false)) (cz2 : CK_ 100 #[PV c2 s2 x2 f2] (.bool true))  :
  CR_ 26 #[.int .u8 f, .int .u8 m, BV a, BV b] w (.tuple #[BV a, .int .u8 0, .int .i64 0]) := by
 have H := Own.start w
 have HT := Lib.hid hT
 clear hT
 go_enter Tryz.func26, Tryz.ntmps26
 exact walk1
theorem addAdd_FI (f m a b : Nat) (c1 s1 f1 : Nat) (x1 : Int) (c2 s2 f2 : Nat) (x2 : Int) (c3 s3 f3 : Nat) (x3 : Int) (w : World) (hT : Tab w) (cO : ∀ w g, Tab w → Blk 27 w g (cat2 (bc a) (bc b)) → CR_ 96 #[.int .u8 f, .int .u8 m, .slice (some ⟨g, 0, none⟩) 2 2] w (.tuple #[.agg (tri c1 s1 x1 f1 c2 s2 x2 f2 c3 s3 x3 f3), .bool true])) (cn1 : CK_ 97 #[PV c1 s1 x1 f1] (.bool false)) (cn2 : CK_ 97 #[PV c2 s2 x2 f2] (.bool false)) (ci1 : CK_ 99 #[PV c1 s1 x1 f1] (.bool false)) (ci2 : CK_ 99 #[PV c2 s2 x2 f2] (.bool true)) (cz1 : CK_ 100 #[PV c1 s1 x1 f1] (.bool false)) (cz2 : CK_ 100 #[PV c2 s2 x2 f2] (.bool false))  :
  CR_ 26 #[.int .u8 f, .int .u8 m, BV a, BV b] w (.tuple #[BV b, .int .u8 0, .int .i64 0]) := by
 have H := Own.start w
 have HT := Lib.hid hT
 clear hT
 go_enter Tryz.func26, Tryz.ntmps26
 exact walk1
theorem addAdd_ZI (f m a b : Nat) (c1 s1 f1 : Nat) (x1 : Int) (c2 s2 f2 : Nat) (x2 : Int) (c3 s3 f3 : Nat) (x3 : Int) (w : World) (hT : Tab w) (cO : ∀ w g, Tab w → Blk 27 w g (cat2 (bc a) (bc b)) → CR_ 96 #[.int .u8 f, .int .u8 m, .slice (some ⟨g, 0, none⟩) 2 2] w (.tuple #[.agg (tri c1 s1 x1 f1 c2 s2 x2 f2 c3 s3 x3 f3), .bool true])) (cn1 : CK_ 97 #[PV c1 s1 x1 f1] (.bool false)) (cn2 : CK_ 97 #[PV c2 s2 x2 f2] (.bool false)) (ci1 : CK_ 99 #[PV c1 s1 x1 f1] (.bool false)) (ci2 : CK_ 99 #[PV c2 s2 x2 f2] (.bool true)) (cz1 : CK_ 100 #[PV c1 s1 x1 f1] (.bool true)) (cz2 : CK_ 100 #[PV c2 s2 x2 f2] (.bool false))  :
  CR_ 26 #[.int .u8 f, .int .u8 m, BV a, BV b] w (.tuple #[BV b, .int .u8 0, .int .i64 0]) := by
 have H := Own.start w
 have HT := Lib.hid hT
 clear hT
 go_enter Tryz.func26, Tryz.ntmps26
 exact walk1
theorem addAdd_ZZs (f m a b : Nat) (c1 s1 f1 : Nat) (x1 : Int) (c2 s2 f2 : Nat) (x2 : Int) (c3 s3 f3 : Nat) (x3 : Int) (w : World) (hT : Tab w) (cO : ∀ w g, Tab w → Blk 27 w g (cat2 (bc a) (bc b)) → CR_ 96 #[.int .u8 f, .int .u8 m, .slice (some ⟨g, 0, none⟩) 2 2] w (.tuple #[.agg (tri c1 s1 x1 f1 c2 s2 x2 f2 c3 s3 x3 f3), .bool true])) (cn1 : CK_ 97 #[PV c1 s1 x1 f1] (.bool false)) (cn2 : CK_ 97 #[PV c2 s2 x2 f2] (.bool false)) (ci1 : CK_ 99 #[PV c1 s1 x1 f1] (.bool false)) (ci2 : CK_ 99 #[PV c2 s2 x2 f2] (.bool false)) (cz1 : CK_ 100 #[PV c1 s1 x1 f1] (.bool true)) (cz2 : CK_ 100 #[PV c2 s2 x2 f2] (.bool true)) (he : ((c1 : Int) == (c2 : Int)) = true)  :
  CR_ 26 #[.int .u8 f, .int .u8 m, BV a, BV b] w (.tuple #[BV a, .int .u8 0, .int .i64 0]) := by
 have H := Own.start w
 have HT := Lib.hid hT
 clear hT
 go_enter Tryz.func26, Tryz.ntmps26
 exact walk1
theorem addAdd_ZZd (f m a b : Nat) (c1 s1 f1 : Nat) (x1 : Int) (c2 s2 f2 : Nat) (x2 : Int) (c3 s3 f3 : Nat) (x3 : Int) (w : World) (hT : Tab w) (cO : ∀ w g, Tab w → Blk 27 w g (cat2 (bc a) (bc b)) → CR_ 96 #[.int .u8 f, .int .u8 m, .slice (some ⟨g, 0, none⟩) 2 2] w (.tuple #[.agg (tri c1 s1 x1 f1 c2 s2 x2 f2 c3 s3 x3 f3), .bool true])) (cn1 : CK_ 97 #[PV c1 s1 x1 f1] (.bool false)) (cn2 : CK_ 97 #[PV c2 s2 x2 f2] (.bool false)) (ci1 : CK_ 99 #[PV c1 s1 x1 f1] (.bool false)) (ci2 : CK_ 99 #[PV c2 s2 x2 f2] (.bool false)) (cz1 : CK_ 100 #[PV c1 s1 x1 f1] (.bool true)) (cz2 : CK_ 100 #[PV c2 s2 x2 f2] (.bool true)) (he : ((c1 : Int) == (c2 : Int)) = false) (zz : Nat) (cZZ : CK_ 78 #[.int .u8 f, .bool ((m : Int) == 2)] (BV zz))  :
  CR_ 26 #[.int .u8 f, .int .u8 m, BV a, BV b] w (.tuple #[BV zz, .int .u8 0, .int .i64 0]) := by
 have H := Own.start w
 have HT := Lib.hid hT
 clear hT
 go_enter Tryz.func26, Tryz.ntmps26
 exact walk1
theorem addAdd_ZF (f m a b : Nat) (c1 s1 f1 : Nat) (x1 : Int) (c2 s2 f2 : Nat) (x2 : Int) (c3 s3 f3 : Nat) (x3 : Int) (w : World) (hT : Tab w) (cO : ∀ w g, Tab w → Blk 27 w g (cat2 (bc a) (bc b)) → CR_ 96 #[.int .u8 f, .int .u8 m, .slice (some ⟨g, 0, none⟩) 2 2] w (.tuple #[.agg (tri c1 s1 x1 f1 c2 s2 x2 f2 c3 s3 x3 f3), .bool true])) (cn1 : CK_ 97 #[PV c1 s1 x1 f1] (.bool false)) (cn2 : CK_ 97 #[PV c2 s2 x2 f2] (.bool false)) (ci1 : CK_ 99 #[PV c1 s1 x1 f1] (.bool false)) (ci2 : CK_ 99 #[PV c2 s2 x2 f2] (.bool false)) (cz1 : CK_ 100 #[PV c1 s1 x1 f1] (.bool true)) (cz2 : CK_ 100 #[PV c2 s2 x2 f2] (.bool false))  :
  CR_ 26 #[.int .u8 f, .int .u8 m, BV a, BV b] w (.tuple #[BV b, .int .u8 0, .int .i64 0]) := by
 have H := Own.start w
 have HT := Lib.hid hT
 clear hT
 go_enter Tryz.func26, Tryz.ntmps26
 exact walk1
theorem addAdd_FZ (f m a b : Nat) (c1 s1 f1 : Nat) (x1 : Int) (c2 s2 f2 : Nat) (x2 : Int) (c3 s3 f3 : Nat) (x3 : Int) (w : World) (hT : Tab w) (cO : ∀ w g, Tab w → Blk 27 w g (cat2 (bc a) (bc b)) → CR_ 96 #[.int .u8 f, .int .u8 m, .slice (some ⟨g, 0, none⟩) 2 2] w (.tuple #[.agg (tri c1 s1 x1 f1 c2 s2 x2 f2 c3 s3 x3 f3), .bool true])) (cn1 : CK_ 97 #[PV c1 s1 x1 f1] (.bool false)) (cn2 : CK_ 97 #[PV c2 s2 x2 f2] (.bool false)) (ci1 : CK_ 99 #[PV c1 s1 x1 f1] (.bool false)) (ci2 : CK_ 99 #[PV c2 s2 x2 f2] (.bool false)) (cz1 : CK_ 100 #[PV c1 s1 x1 f1] (.bool false)) (cz2 : CK_ 100 #[PV c2 s2 x2 f2] (.bool true))  :
  CR_ 26 #[.int .u8 f, .int .u8 m, BV a, BV b] w (.tuple #[BV a, .int .u8 0, .int .i64 0]) := by
 have H := Own.start w
 have HT := Lib.hid hT
 clear hT
 go_enter Tryz.func26, Tryz.ntmps26
 exact walk1
end Go.Proofs.YtgmhmpflmgfcdaaGreatDoor
