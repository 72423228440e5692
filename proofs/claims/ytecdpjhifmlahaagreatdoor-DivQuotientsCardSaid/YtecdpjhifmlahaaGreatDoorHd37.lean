/- Part 37 of what is proved: Pco, Pkj, Lp, Lm, Kfs, Wsub, Wcmp, Qdv, Qsq, Di0, Di1. -/
import Derived.Deep.RegionWith
import Derived.Deep.RegionHeld3
import Derived.Deep.QuietTactic
import Derived.BigQuiet
import Derived.StillTailTactics
import Derived.Outline
import Derived.Test.YtecdpjhifmlahaaGreatDoorHd1
import Derived.Test.YtecdpjhifmlahaaGreatDoorHd2
import Derived.Test.YtecdpjhifmlahaaGreatDoorHd3
import Derived.Test.YtecdpjhifmlahaaGreatDoorHd4
import Derived.Test.YtecdpjhifmlahaaGreatDoorHd5
import Derived.Test.YtecdpjhifmlahaaGreatDoorHd6
import Derived.Test.YtecdpjhifmlahaaGreatDoorHd29
import Derived.Test.YtecdpjhifmlahaaGreatDoorHd30
import Derived.Test.YtecdpjhifmlahaaGreatDoorHd34
import Derived.Test.YtecdpjhifmlahaaGreatDoorHd35
import Derived.Test.YtecdpjhifmlahaaGreatDoorHd36
set_option linter.unusedSimpArgs false
set_option linter.unusedVariables false
set_option linter.unnecessarySimpa false
set_option maxRecDepth 100000
set_option maxHeartbeats 1600000
namespace Go.Proofs.YtecdpjhifmlahaaGreatDoor
open Go.RowKit
theorem roundPack_over2_f (f m s p l E k lk o : Nat) (e top lo : Int) (neg ex : Bool) (w : World) (hT : Tab w) (hp : p ≤ 113) (h1 : -1048576 ≤ e) (h2 : e ≤ 1048576) (hl4 : l ≤ 384) (cP : CK_ 102 #[.int .u8 f] (.int .i64 (p : Nat))) (cR : ∀ w, Calls Tryz.prog 153 #[.int .u8 f, .int .u8 m] w fun e w' => e = .returned (.bool true) ∧ w = w') (cL : CK_ 103 #[W s] (.int .i64 (l : Nat))) (hs : s < top6) (hs0 : decide (s = 0) = false) (htop : (l : Int) - 1 + e = top) (l1 : -20000 ≤ lo) (l2 : lo ≤ 20000) (t1 : -1100000 ≤ top) (t2 : top ≤ 1100000) (hE : E ≤ 16383) (cE : CK_ 154 #[.int .u8 f] (.int .i64 lo)) (cX : CK_ 155 #[.int .u8 f] (.int .i64 (E : Nat))) (hlk : lk ≤ 384) (hov : ¬ (E : Int) < top) (hov2 : (E : Int) < (lk : Int) - 1 + (max top lo - (p : Int) + 1)) (cG : CT_ 157 #[.int .u8 m, RV neg s e false, .int .i64 (max top lo - (p : Int) + 1)] (.tuple #[W k, .bool ex])) (cK : CK_ 103 #[W k] (.int .i64 (lk : Nat))) (cO : CK_ 156 #[.int .u8 f, .int .u8 m, .bool neg] (.tuple #[BV o, .int .u8 5, .int .i64 0]))  :
    Calls Tryz.prog 61 #[.int .u8 f, .int .u8 m, RV neg s e false] w fun e w' => e = .returned (.tuple #[BV o, .int .u8 5, .int .i64 0]) ∧ Below w.heap.size w w' := by
  have H := Own.start w
  have HT := Lib.hid hT
  clear hT
  have he2 : decide (e < -1048576) = false := by simp; omega
  have he3 : decide (1048576 < e) = false := by simp; omega
  have eq1 : ∀ w, (Op.equalIn 10000 63 (.agg (limbs s)) (.agg #[.int .u64 0, .int .u64 0, .int .u64 0, .int .u64 0, .int .u64 0, .int .u64 0])).run Tryz.prog w = .ok false w := fun w => (run_equal_zero w s hs).trans (by rw [hs0])
  have v1 : IntKind.i64.wrap ((l : Int) - 1) = (l : Int) - 1 := IntWalk.i64_in _ (by omega)
  have v2 : IntKind.i64.wrap ((l : Int) - 1 + e) = top := by rw [htop]; exact IntWalk.i64_in _ (by omega)
  clear hs hs0 htop
  have hov3 : decide ((E : Int) < top) = false := by simp; omega
  have hov4 : decide ((E : Int) < (lk : Int) - 1 + (max top lo - (p : Int) + 1)) = true := by simp only [decide_eq_true_eq]; exact hov2
  go_enter Tryz.func61, Tryz.ntmps61
  exact walk2
theorem roundPack_over2_t (f m s p l E k lk o : Nat) (e top lo : Int) (neg ex : Bool) (w : World) (hT : Tab w) (hp : p ≤ 113) (h1 : -1048576 ≤ e) (h2 : e ≤ 1048576) (hl4 : l ≤ 384) (hl : ¬ l < p + 2) (cP : CK_ 102 #[.int .u8 f] (.int .i64 (p : Nat))) (cR : ∀ w, Calls Tryz.prog 153 #[.int .u8 f, .int .u8 m] w fun e w' => e = .returned (.bool true) ∧ w = w') (cL : CK_ 103 #[W s] (.int .i64 (l : Nat))) (hs : s < top6) (hs0 : decide (s = 0) = false) (htop : (l : Int) - 1 + e = top) (l1 : -20000 ≤ lo) (l2 : lo ≤ 20000) (t1 : -1100000 ≤ top) (t2 : top ≤ 1100000) (hE : E ≤ 16383) (cE : CK_ 154 #[.int .u8 f] (.int .i64 lo)) (cX : CK_ 155 #[.int .u8 f] (.int .i64 (E : Nat))) (hlk : lk ≤ 384) (hov : ¬ (E : Int) < top) (hov2 : (E : Int) < (lk : Int) - 1 + (max top lo - (p : Int) + 1)) (cG : CT_ 157 #[.int .u8 m, RV neg s e true, .int .i64 (max top lo - (p : Int) + 1)] (.tuple #[W k, .bool ex])) (cK : CK_ 103 #[W k] (.int .i64 (lk : Nat))) (cO : CK_ 156 #[.int .u8 f, .int .u8 m, .bool neg] (.tuple #[BV o, .int .u8 5, .int .i64 0]))  :
    Calls Tryz.prog 61 #[.int .u8 f, .int .u8 m, RV neg s e true] w fun e w' => e = .returned (.tuple #[BV o, .int .u8 5, .int .i64 0]) ∧ Below w.heap.size w w' := by
  have H := Own.start w
  have HT := Lib.hid hT
  clear hT
  have he2 : decide (e < -1048576) = false := by simp; omega
  have he3 : decide (1048576 < e) = false := by simp; omega
  have hl2 : decide ((l : Int) < (p : Int) + 2) = false := by simp; omega
  have eq1 : ∀ w, (Op.equalIn 10000 63 (.agg (limbs s)) (.agg #[.int .u64 0, .int .u64 0, .int .u64 0, .int .u64 0, .int .u64 0, .int .u64 0])).run Tryz.prog w = .ok false w := fun w => (run_equal_zero w s hs).trans (by rw [hs0])
  have v1 : IntKind.i64.wrap ((l : Int) - 1) = (l : Int) - 1 := IntWalk.i64_in _ (by omega)
  have v2 : IntKind.i64.wrap ((l : Int) - 1 + e) = top := by rw [htop]; exact IntWalk.i64_in _ (by omega)
  clear hs hs0 htop
  have hov3 : decide ((E : Int) < top) = false := by simp; omega
  have hov4 : decide ((E : Int) < (lk : Int) - 1 + (max top lo - (p : Int) + 1)) = true := by simp only [decide_eq_true_eq]; exact hov2
  go_enter Tryz.func61, Tryz.ntmps61
  exact walk2
open Go.RowKit
theorem roundTiny_any (f m s : Nat) (e top : Int) (neg mo : Bool) (w : World) (hT : Tab w) (hf : f < 4) (hm : m < 5) (hs : s < top6) (hs0 : s ≠ 0) (h1 : -1048576 ≤ e) (h2 : e ≤ 1048576) (ht : (lenN s : Int) - 1 + e = top) :
    Calls Tryz.prog 158 #[.int .u8 f, .int .u8 m, RV neg s e mo, .int .i64 top] w fun e' w' => e' = .returned (.bool (tinyB f m neg s e mo top)) ∧ Below w.heap.size w w' := by
  have hK := formK f hf
  have hp := pF_113 f
  have hl := lenN_pos s hs0
  have hl4 : lenN s ≤ 384 := (lenN_le s 384).2 (by rw [show 384 = 64 * 6 from rfl, ← top6.eq_1]; exact hs)
  have cE := fun w => shapeEmin_any f w (by omega)
  have cP := fun w => shapePrecision_any f w (by omega)
  unfold tinyB
  by_cases hq : top = eminI f - 1
  · rw [if_pos hq]
    have hk := gridN_le m s (pF f) neg mo e (top - pF f + 1) (by omega)
    have cG := fun w hT => roundGrid_any m s e (top - pF f + 1) neg mo w hT (by omega) hs (by omega) (by omega) (by omega) (by omega) (by omega)
    have cK := fun w => wideLen_any (gridN m neg s e mo (top - pF f + 1)).1 w (lt_top114 _ _ hp hk)
    exact roundTiny_eq f m s (pF f) _ _ e top (eminI f) _ neg mo _ w hT hp (by omega) (by omega) (by omega) (by omega) (by rw [hq, beq_self_eq_true]) rfl cE cP cG cK
  · rw [if_neg hq]
    exact roundTiny_ne f m s (pF f) e top (eminI f) neg mo w hT hp (by omega) (by omega) (by omega) (by omega) (by rw [beq_eq_false_iff_ne]; exact hq) cE cP
theorem roundPack_any (f m s : Nat) (e : Int) (neg mo : Bool) (w : World) (hT : Tab w) (hf : f < 256) (hm : m < 256) (hs : s < top6) :
    Calls Tryz.prog 61 #[.int .u8 f, .int .u8 m, RV neg s e mo] w fun e' w' => e' = .returned (.tuple #[BV (packN f m neg s e mo).1, .int .u8 ((packN f m neg s e mo).2.1 : Nat), .int .i64 (packN f m neg s e mo).2.2]) ∧ Below w.heap.size w w' := by
  have hp := pF_113 f
  have hl4 : lenN s ≤ 384 := (lenN_le s 384).2 (by rw [show 384 = 64 * 6 from rfl, ← top6.eq_1]; exact hs)
  have cP := fun w => shapePrecision_any f w hf
  have cR := fun w => roundRight_any f m w hf hm
  have cL := fun w => wideLen_any s w hs
  have cZ := fun w => shapeZero_any f neg w hf
  by_cases hr : (decide (f < 4) && decide (m < 5)) = true
  case neg =>
    have hr' : (decide (f < 4) && decide (m < 5)) = false := by cases h : (decide (f < 4) && decide (m < 5)) <;> simp_all
    have hN : packN f m neg s e mo = (0, 0, 2) := by unfold packN packOk; rw [hr']; simp only [Bool.false_and, Bool.false_eq_true, if_false]
    rw [hN]
    rw [hr'] at cR
    exact roundPack_right f m s _ e neg mo w hp cP cR
  rw [hr] at cR
  have hf4 : f < 4 := by simp only [Bool.and_eq_true, decide_eq_true_eq] at hr; exact hr.1
  have hm5 : m < 5 := by simp only [Bool.and_eq_true, decide_eq_true_eq] at hr; exact hr.2
  by_cases he1 : e < -1048576
  · have hN : packN f m neg s e mo = (0, 0, 2) := by unfold packN packOk; rw [decide_eq_false (show ¬ -1048576 ≤ e by omega)]; simp only [Bool.and_false, Bool.false_and, Bool.false_eq_true, if_false]
    rw [hN]
    exact roundPack_low f m s _ e neg mo w hp he1 cP cR
  by_cases he2 : 1048576 < e
  · have hN : packN f m neg s e mo = (0, 0, 2) := by unfold packN packOk; rw [decide_eq_false (show ¬ e ≤ 1048576 by omega)]; simp only [Bool.and_false, Bool.false_and, Bool.false_eq_true, if_false]
    rw [hN]
    exact roundPack_high f m s _ e neg mo w hp he2 cP cR
  by_cases hmo : (mo && decide (lenN s < pF f + 2)) = true
  · have hN : packN f m neg s e mo = (0, 0, 2) := by unfold packN packOk; rw [hmo]; simp only [Bool.not_true, Bool.and_false, Bool.false_eq_true, if_false]
    rw [hN]
    have ht : mo = true := by cases mo <;> simp_all
    subst ht
    exact roundPack_more f m s (pF f) (lenN s) e neg w hp (by omega) (by omega) (by simpa using hmo) hl4 cP cR cL
  have hmo' : (mo && decide (lenN s < pF f + 2)) = false := by cases h : (mo && decide (lenN s < pF f + 2)) <;> simp_all
  have hok : packOk f m s e mo = true := by
    unfold packOk
    rw [hr, hmo', decide_eq_true (show -1048576 ≤ e by omega), decide_eq_true (show e ≤ 1048576 by omega)]; rfl
  have hl : mo = true → ¬ lenN s < pF f + 2 := by intro ht; subst ht; simpa using hmo'
  by_cases hz : s = 0
  · have hN : packN f m neg s e mo = (zeroN f neg, 0, 0) := by unfold packN; rw [if_pos hok, if_pos hz]
    rw [hN]
    cases mo with
    | false => exact roundPack_zero_f f m s (pF f) (lenN s) _ e neg w hT hp (by omega) (by omega) hl4 cP cR cL hs (decide_eq_true hz) cZ
    | true => exact roundPack_zero_t f m s (pF f) (lenN s) _ e neg w hT hp (by omega) (by omega) hl4 (hl rfl) cP cR cL hs (decide_eq_true hz) cZ
  have hN : packN f m neg s e mo = ((packB f m neg s e mo).1, (packB f m neg s e mo).2, 0) := by unfold packN; rw [if_pos hok, if_neg hz]
  rw [hN]
  have hK := formK f hf4
  have hl1 := lenN_pos s hz
  have cE := fun w => shapeEmin_any f w hf
  have cX := fun w => shapeEmax_any f w hf
  have cO := fun w => roundOver_any f m neg w hf4 hm5
  obtain ⟨top, htop⟩ : ∃ top, (lenN s : Int) - 1 + e = top := ⟨_, rfl⟩
  have hz' := decide_eq_false hz
  unfold packB
  rw [htop]
  by_cases hov : (eF f : Int) < top
  · rw [if_pos hov]
    cases mo with
    | false => exact roundPack_over_f f m s (pF f) (lenN s) (eF f) _ e top (eminI f) neg w hT hp (by omega) (by omega) hl4 cP cR cL hs hz' htop (by omega) (by omega) (by omega) (by omega) (by omega) cE cX hov cO
    | true => exact roundPack_over_t f m s (pF f) (lenN s) (eF f) _ e top (eminI f) neg w hT hp (by omega) (by omega) hl4 (hl rfl) cP cR cL hs hz' htop (by omega) (by omega) (by omega) (by omega) (by omega) cE cX hov cO
  rw [if_neg hov]
  have hat : atN f top = max top (eminI f) - (pF f : Int) + 1 := rfl
  have hk := gridN_le m s (pF f) neg mo e (atN f top) (by rw [hat]; omega)
  have cG := fun w hT => roundGrid_any m s e (atN f top) neg mo w hT hm hs (by omega) (by omega) (by rw [hat]; omega) (by rw [hat]; omega) (by rw [hat]; omega)
  have cT := fun w hT => roundTiny_any f m s e top neg mo w hT hf4 hm5 hs hz (by omega) (by omega) htop
  obtain ⟨k, ex, hg⟩ : ∃ k ex, gridN m neg s e mo (atN f top) = (k, ex) := ⟨_, _, rfl⟩
  rw [hg] at cG hk ⊢
  rw [hat] at cG
  have hk' : k ≤ 2 ^ pF f := hk
  have hkt := lt_top114 k _ hp hk'
  have hkl := lenN_le_of k _ hk'
  have cK := fun w => wideLen_any k w hkt
  by_cases hov2 : (eF f : Int) < lenN k - 1 + atN f top
  · rw [if_pos hov2]
    rw [hat] at hov2
    cases mo with
    | false => exact roundPack_over2_f f m s (pF f) (lenN s) (eF f) k (lenN k) _ e top (eminI f) neg ex w hT hp (by omega) (by omega) hl4 cP cR cL hs hz' htop (by omega) (by omega) (by omega) (by omega) (by omega) cE cX (by omega) hov hov2 cG cK cO
    | true => exact roundPack_over2_t f m s (pF f) (lenN s) (eF f) k (lenN k) _ e top (eminI f) neg ex w hT hp (by omega) (by omega) hl4 (hl rfl) cP cR cL hs hz' htop (by omega) (by omega) (by omega) (by omega) (by omega) cE cX (by omega) hov hov2 cG cK cO
  rw [if_neg hov2]
  rw [hat] at hov2
  obtain ⟨d, hd⟩ : ∃ d : Nat, d = (max top (eminI f) - eminI f).toNat := ⟨_, rfl⟩
  have hd1 : max top (eminI f) - (pF f : Int) + 1 - eminI f + (pF f : Int) - 1 = (d : Int) := by omega
  have hd2 : (atN f top - eminI f + pF f - 1).toNat = d := by rw [hat]; omega
  have hen := enc_lt f k d hf4 hk' (by omega)
  have cOf := fun w => wideOf_any d w (by omega)
  rw [← hd1] at cOf
  have cLf := fun w => wideLeft_any d ((pF f : Int) - 1) w (lt_top_bits d (by omega))
  have hcl : clip ((pF f : Int) - 1) = pF f - 1 := by unfold clip; omega
  rw [hcl] at cLf
  have cAd := fun w => wideAdd_any (d * 2 ^ (pF f - 1)) k w
  have hw : 2 ^ (wF f - 1) ≤ 2 ^ (64 * 2) := Nat.pow_le_pow_right (by decide) (by rcases forms f with rfl | rfl | rfl | rfl | h <;> first | decide | omega)
  have cB := fun w => wideToBits_any (d * 2 ^ (pF f - 1) + k) w (Nat.lt_of_lt_of_le hen hw)
  have hzn : zeroN f neg = signN f neg := by unfold zeroN; rw [decide_eq_true hf4, cond_true]
  have hor : (d * 2 ^ (pF f - 1) + k) ||| zeroN f neg = encN f neg k (atN f top) := by
    rw [hzn, or_sign f _ neg hen]; unfold encN; rw [hd2]
  have fin : ∀ fl : Value, Ending.returned (.tuple #[.agg #[.int .u64 (Go.bits .or .u64 (limb (d * 2 ^ (pF f - 1) + k) 1) (limb (zeroN f neg) 1)), .int .u64 (Go.bits .or .u64 (limb (d * 2 ^ (pF f - 1) + k) 0) (limb (zeroN f neg) 0))], fl, .int .i64 0]) = .returned (.tuple #[BV (encN f neg k (atN f top)), fl, .int .i64 0]) := by
    intro fl
    have h := pair_or (d * 2 ^ (pF f - 1) + k) (zeroN f neg)
    rw [hor] at h
    injection h with h
    rw [h]
  cases ex with
  | true =>
    simp only [cond_true]
    cases mo with
    | false =>
      refine (roundPack_x_f f m s (pF f) (lenN s) (eF f) k (lenN k) _ d _ _ _ e top (eminI f) neg _ _ _ w hT hp (by omega) (by omega) hl4 cP cR cL hs hz' htop (by omega) (by omega) (by omega) (by omega) (by omega) cE cX (by omega) hov hov2 cG cK cOf cLf cAd cB cZ).mono ?_
      intro e' w' ⟨he, hb⟩
      exact ⟨he.trans (fin _), hb⟩
    | true =>
      refine (roundPack_x_t f m s (pF f) (lenN s) (eF f) k (lenN k) _ d _ _ _ e top (eminI f) neg _ _ _ w hT hp (by omega) (by omega) hl4 (hl rfl) cP cR cL hs hz' htop (by omega) (by omega) (by omega) (by omega) (by omega) cE cX (by omega) hov hov2 cG cK cOf cLf cAd cB cZ).mono ?_
      intro e' w' ⟨he, hb⟩
      exact ⟨he.trans (fin _), hb⟩
  | false =>
    simp only [cond_false]
    cases hty : tinyB f m neg s e mo top with
    | false =>
      rw [hty] at cT
      simp only [cond_false]
      cases mo with
      | false =>
        refine (roundPack_i_f f m s (pF f) (lenN s) (eF f) k (lenN k) _ d _ _ _ e top (eminI f) neg _ _ _ w hT hp (by omega) (by omega) hl4 cP cR cL hs hz' htop (by omega) (by omega) (by omega) (by omega) (by omega) cE cX (by omega) hov hov2 cG cK cOf cLf cAd cB cZ cT).mono ?_
        intro e' w' ⟨he, hb⟩
        exact ⟨he.trans (fin _), hb⟩
      | true =>
        refine (roundPack_i_t f m s (pF f) (lenN s) (eF f) k (lenN k) _ d _ _ _ e top (eminI f) neg _ _ _ w hT hp (by omega) (by omega) hl4 (hl rfl) cP cR cL hs hz' htop (by omega) (by omega) (by omega) (by omega) (by omega) cE cX (by omega) hov hov2 cG cK cOf cLf cAd cB cZ cT).mono ?_
        intro e' w' ⟨he, hb⟩
        exact ⟨he.trans (fin _), hb⟩
    | true =>
      rw [hty] at cT
      simp only [cond_true]
      cases mo with
      | false =>
        refine (roundPack_u_f f m s (pF f) (lenN s) (eF f) k (lenN k) _ d _ _ _ e top (eminI f) neg _ _ _ w hT hp (by omega) (by omega) hl4 cP cR cL hs hz' htop (by omega) (by omega) (by omega) (by omega) (by omega) cE cX (by omega) hov hov2 cG cK cOf cLf cAd cB cZ cT).mono ?_
        intro e' w' ⟨he, hb⟩
        exact ⟨he.trans (fin _), hb⟩
      | true =>
        refine (roundPack_u_t f m s (pF f) (lenN s) (eF f) k (lenN k) _ d _ _ _ e top (eminI f) neg _ _ _ w hT hp (by omega) (by omega) hl4 (hl rfl) cP cR cL hs hz' htop (by omega) (by omega) (by omega) (by omega) (by omega) cE cX (by omega) hov hov2 cG cK cOf cLf cAd cB cZ cT).mono ?_
        intro e' w' ⟨he, hb⟩
        exact ⟨he.trans (fin _), hb⟩
theorem half_bit (a i : Nat) : a / 2 ^ i = 2 * (a / 2 ^ (i + 1)) + a / 2 ^ i % 2 := by
  rw [Nat.pow_succ, ← Nat.div_div_eq_div_mul]; omega
theorem div_hi (A b d : Nat) (hb : 0 < b) (hd : d < 2) (h : b ≤ 2 * (A % b) + d) : (2 * A + d) / b = 2 * (A / b) + 1 ∧ (2 * A + d) % b = 2 * (A % b) + d - b := by
  have h1 := Nat.div_add_mod A b
  have h2 := Nat.mod_lt A hb
  have e : 2 * A + d = b * (2 * (A / b) + 1) + (2 * (A % b) + d - b) := by
    rw [Nat.mul_add, Nat.mul_one, Nat.mul_left_comm]
    generalize b * (A / b) = X at *
    omega
  have h3 : 2 * (A % b) + d - b < b := by omega
  constructor
  · rw [e, Nat.mul_add_div hb, Nat.div_eq_of_lt h3, Nat.add_zero]
  · rw [e, Nat.mul_add_mod, Nat.mod_eq_of_lt h3]
theorem div_lo (A b d : Nat) (hb : 0 < b) (h : 2 * (A % b) + d < b) : (2 * A + d) / b = 2 * (A / b) ∧ (2 * A + d) % b = 2 * (A % b) + d := by
  have h1 := Nat.div_add_mod A b
  have e : 2 * A + d = b * (2 * (A / b)) + (2 * (A % b) + d) := by
    rw [Nat.mul_left_comm]
    generalize b * (A / b) = X at *
    omega
  constructor
  · rw [e, Nat.mul_add_div hb, Nat.div_eq_of_lt h, Nat.add_zero]
  · rw [e, Nat.mul_add_mod, Nat.mod_eq_of_lt h]
theorem div_round (a b i : Nat) (hb : 0 < b) :
    (b ≤ 2 * (a / 2 ^ (i + 1) % b) + a / 2 ^ i % 2 → a / 2 ^ i / b * 2 ^ i = a / 2 ^ (i + 1) / b * 2 ^ (i + 1) + 2 ^ i ∧ a / 2 ^ i % b = 2 * (a / 2 ^ (i + 1) % b) + a / 2 ^ i % 2 - b) ∧
    (2 * (a / 2 ^ (i + 1) % b) + a / 2 ^ i % 2 < b → a / 2 ^ i / b * 2 ^ i = a / 2 ^ (i + 1) / b * 2 ^ (i + 1) ∧ a / 2 ^ i % b = 2 * (a / 2 ^ (i + 1) % b) + a / 2 ^ i % 2) := by
  have hd : a / 2 ^ i % 2 < 2 := Nat.mod_lt _ (by decide)
  have hs := half_bit a i
  generalize a / 2 ^ i % 2 = d at *
  rw [hs]
  have hp : 2 ^ (i + 1) = 2 ^ i * 2 := Nat.pow_succ _ _
  generalize a / 2 ^ (i + 1) = A at *
  rw [hp]
  constructor
  · intro h
    obtain ⟨e1, e2⟩ := div_hi A b d hb hd h
    refine ⟨?_, e2⟩
    rw [e1, Nat.add_mul, Nat.one_mul, Nat.mul_comm 2 (A / b), Nat.mul_assoc, Nat.mul_comm 2]
  · intro h
    obtain ⟨e1, e2⟩ := div_lo A b d hb h
    refine ⟨?_, e2⟩
    rw [e1, Nat.mul_comm 2 (A / b), Nat.mul_assoc, Nat.mul_comm 2]
theorem or_bit (k i : Nat) : k * 2 ^ (i + 1) ||| 2 ^ i = k * 2 ^ (i + 1) + 2 ^ i := by
  have h : 2 ^ i < 2 ^ (i + 1) := Nat.pow_lt_pow_right (by decide) (by omega)
  have := Nat.two_pow_add_eq_or_of_lt h k
  rw [Nat.mul_comm]; exact this.symm
open Go.RowKit
theorem limbN_pow (i j : Nat) : limbN (2 ^ i) j = if j = i / 64 then 2 ^ (i % 64) else 0 := by
  have h64 : 2 ^ (i % 64) < 18446744073709551616 := by rw [B64]; exact Nat.pow_lt_pow_right (by decide) (Nat.mod_lt _ (by decide))
  have hp : 2 ^ i = 0 + 2 ^ (i % 64) * 2 ^ (64 * (i / 64)) := by
    rw [Nat.zero_add, ← Nat.pow_add]; congr 1; omega
  have := limbN_put 0 (2 ^ (i % 64)) (i / 64) j (pw_pos _) h64
  rw [← hp] at this
  rw [this]
  have h0 : limbN 0 j = 0 := by unfold limbN; rw [Nat.zero_div]
  rw [h0]
theorem limbs_or_bit (q i : Nat) (hi : i < 384) : (limbs q).setIfInBounds (i / 64) (.int .u64 (Go.bits .or .u64 (limb q (i / 64)) ((2 ^ (i % 64) : Nat) : Int))) = limbs (q ||| 2 ^ i) := by
  have key : ∀ j, limb (q ||| 2 ^ i) j = if j = i / 64 then Go.bits .or .u64 (limb q (i / 64)) ((2 ^ (i % 64) : Nat) : Int) else limb q j := by
    intro j
    rw [← limb_or]
    unfold limb
    rw [limbN_pow i j]
    split
    · rename_i h; rw [h]
    · rw [u64_or_nat _ _ (limbN_lt q j) (by decide), Nat.or_zero]
  apply Array.ext_getElem?
  intro j
  by_cases hj : j < 6
  · rw [limbs_get _ j hj, Array.getElem?_setIfInBounds, key j]
    by_cases h : i / 64 = j
    · rw [if_pos h, if_pos (by rw [limbs_size]; omega), if_pos h.symm]
    · rw [if_neg h, if_neg (fun e => h e.symm)]; exact limbs_get q j hj
  · rw [Array.getElem?_eq_none (by rw [Array.size_setIfInBounds, limbs_size]; omega), Array.getElem?_eq_none (by rw [limbs_size]; omega)]
theorem limbs_or1 (x : Nat) : (limbs x).setIfInBounds 0 (.int .u64 (Go.bits .or .u64 (limb x 0) 1)) = limbs (x ||| 1) := limbs_or_bit x 0 (by decide)
theorem set_or1 (x : Nat) : setRow (limbs x) 0 (#[.int .u64 (Go.bits .or .u64 (limb x 0) 1)] : Array Value).toList = limbs (x ||| 1) := limbs_or1 x
open Go.RowKit
theorem quotDigits_ok (a b x q r : Nat) (n : Int) (w : World) (hn : 0 ≤ n) (hn2 : n ≤ 384) (hb : b < top6) (hb0 : decide (b = 0) = false) (hr : r < top6) (cL : CK_ 104 #[W a, .int .i64 n] (.tuple #[W x, .bool false])) (cD : CK_ 191 #[W x, W b] (.tuple #[W q, W r, .int .i64 0])) :
    Calls Tryz.prog 112 #[W a, W b, .int .i64 n] w fun e w' => e = .returned (.tuple #[W q, .bool (!decide (r = 0)), .int .i64 0]) ∧ Below w.heap.size w w' := by
  have H := Own.start w
  have eq1 : ∀ w, (Op.equalIn 10000 63 (.agg (limbs b)) (.agg #[.int .u64 0, .int .u64 0, .int .u64 0, .int .u64 0, .int .u64 0, .int .u64 0])).run Tryz.prog w = .ok false w := fun w => (run_equal_zero w b hb).trans (by rw [hb0])
  have eq2 : ∀ w, (Op.equalIn 10000 63 (.agg (limbs r)) (.agg #[.int .u64 0, .int .u64 0, .int .u64 0, .int .u64 0, .int .u64 0, .int .u64 0])).run Tryz.prog w = .ok (decide (r = 0)) w := fun w => run_equal_zero w r hr
  have d1 : decide (n < 0) = false := by simp; omega
  have d2 : decide (384 < n) = false := by simp; omega
  clear hb hb0 hr
  go_enter Tryz.func112, Tryz.ntmps112
  exact walk3
open Go.RowKit
theorem subW_nat (x y d : Nat) (c : Bool) (hx : x < 18446744073709551616) (hy : y < 18446744073709551616) (hd : d < 18446744073709551616) (h : (d + y + c.toNat) % 18446744073709551616 = x) : subW (x : Int) (y : Int) c = (d : Int) := by
  unfold subW; cases c <;> simp at h ⊢ <;> omega
theorem borW_nat (x y d : Nat) (c : Bool) (hx : x < 18446744073709551616) (hy : y < 18446744073709551616) (hd : d < 18446744073709551616) (h : (d + y + c.toNat) % 18446744073709551616 = x) : borW (x : Int) (y : Int) c = decide (18446744073709551616 ≤ d + y + c.toNat) := by
  unfold borW; rw [Bool.eq_iff_iff, decide_eq_true_iff, decide_eq_true_iff]; cases c <;> simp at h ⊢ <;> omega
def subN (a b : Nat) : Nat := a + top6 - b
theorem limbN_top (a i : Nat) (h : i < 6) : limbN (a + top6) i = limbN a i := by
  have e : top6 = 2 ^ (64 * i) * (18446744073709551616 * 2 ^ (64 * (5 - i))) := by
    unfold top6
    rw [show 64 * 6 = 64 * i + (64 + 64 * (5 - i)) by omega, Nat.pow_add, Nat.pow_add]
  unfold limbN
  rw [e, Nat.add_mul_div_left _ _ (pw_pos i), Nat.add_mul_mod_self_left]
theorem sub_word (a b k : Nat) (hb : b < top6) (hk : k < 6) : (limbN (subN a b) k + limbN b k + (cbit (subN a b) b k).toNat) % 18446744073709551616 = limbN a k := by
  have h1 := sum_step (subN a b) b k
  rw [mod_low] at h1
  have e : subN a b + b = a + top6 := by unfold subN; omega
  have h2 : limbN (subN a b + b) k = limbN a k := by rw [e, limbN_top a k hk]
  rw [← h2]
  have h3 : limbN (subN a b + b) k * 2 ^ (64 * k) = (limbN (subN a b) k + limbN b k + (cbit (subN a b) b k).toNat) % 18446744073709551616 * 2 ^ (64 * k) := by omega
  exact (Nat.eq_of_mul_eq_mul_right (pw_pos k) h3).symm
theorem limbs_sub (a b : Nat) (h : b ≤ a) : limbs (subN a b) = limbs (a - b) := by
  apply limbs_eq
  intro i hi
  rw [← limbN_top (a - b) i hi]
  unfold subN
  rw [show a + top6 - b = a - b + top6 by omega]
theorem sub_limb (a b k : Nat) (cb : Bool) (hb : b < top6) (hk : k < 6) (h : cbit (subN a b) b k = cb) : subW (limb a k) (limb b k) cb = limb (subN a b) k := by
  unfold limb
  exact subW_nat _ _ _ _ (limbN_lt a k) (limbN_lt b k) (limbN_lt _ k) (by rw [← h]; exact sub_word a b k hb hk)
theorem sub_borrow (a b k : Nat) (cb : Bool) (hb : b < top6) (hk : k < 6) (h : cbit (subN a b) b k = cb) : cbit (subN a b) b (k + 1) = borW (limb a k) (limb b k) cb := by
  unfold limb
  rw [borW_nat _ _ _ _ (limbN_lt a k) (limbN_lt b k) (limbN_lt _ k) (by rw [← h]; exact sub_word a b k hb hk), cbit_step, h]
theorem wideSub_any (a b : Nat) (w : World) (hbt : b < top6) :
    Calls Tryz.prog 122 #[W a, W b] w fun e w' => e = .returned (.tuple #[W (subN a b), .bool (cbit (subN a b) b 6)]) ∧ Below w.heap.size w w' := by
  have HT := Lib.hid hbt
  clear hbt
  have sa := limbs_size a
  have sb := limbs_size b
  go_enter Tryz.func122, Tryz.ntmps122
  go_wp2_with fail
  go_loopw [5, 7] (fun c i wr => ∃ (k : Nat) (cb : Bool), k ≤ 6 ∧ i = .int .i64 k ∧ c = .bool cb ∧ Hid (cbit (subN a b) b k = cb) ∧
      Blk 63 wr w.heap.size (limbs a) ∧ Blk 63 wr (w.heap.size + 1) (limbs b) ∧
      Blk 63 wr (w.heap.size + 1 + 1) (fillTo (limbs 0) (fun i => .int .u64 (limb (subN a b) i)) k) ∧ Below w.heap.size w wr) (fun _ i _ => 6 - (intOf i).toNat)
  case atStart =>
    refine ⟨0, false, by omega, rfl, rfl, cbit_zero _ b, ((Blk.new w _).alloc _).alloc _, ?_, ?_, ((((Below.refl _ _).alloc (Nat.le_refl _) _).alloc (by simp) _).alloc (by simp <;> omega) _)⟩
    · have := (Blk.new (T := 63) (w.alloc (.cells (limbs a) 63)) (limbs b)).alloc (.cells #[.int .u64 0, .int .u64 0, .int .u64 0, .int .u64 0, .int .u64 0, .int .u64 0] 63)
      simpa using this
    · have := Blk.new (T := 63) ((w.alloc (.cells (limbs a) 63)).alloc (.cells (limbs b) 63)) #[.int .u64 0, .int .u64 0, .int .u64 0, .int .u64 0, .int .u64 0, .int .u64 0]
      rw [fillTo, limbs_zero]
      simpa using this
  case round =>
    obtain ⟨k, cb, hk, rfl, rfl, hc, ha, hb, hs, hbel⟩ := hrel
    by_cases hlt : k < 6
    · have ca := ha.cell k (limbs_get a k hlt)
      have cb' := hb.cell k (limbs_get b k hlt)
      have cs := hs.cell k ((fillTo_hi _ _ k k (Nat.le_refl _)).trans (limbs_get 0 k hlt))
      have fs := hs.free k
      go_wp2_with fail
      go_region_with (go_at_call 193; refine (wordSub_any _ _ _ _ (limb_w a k) (limb_w b k)).mono ?_; rintro e w' ⟨rfl, rfl⟩)
      all_goals go_wp2
      all_goals
        go_roundw
        case rel => exact ⟨k + 1, _, by omega, by go_num, rfl, sub_borrow a b k cb HT.out (by omega) hc.out, (ha.other _ _ (by simp; omega)).drew, (hb.other _ _ (by simp)).drew, (hs.set k _ (by rw [sub_limb a b k cb HT.out (by omega) hc.out]; rfl)).drew, (hbel.setCell (by simp; omega) _).drew⟩
        case measure => simp [intOf]; omega
    · have : k = 6 := by omega
      subst this
      rw [fillTo_all (limbs 0) _ (subN a b) rfl (fun i _ => rfl)] at hs
      have c0 := hs.cell 0 (limbs_get _ 0 (by decide))
      have c1 := hs.cell 1 (limbs_get _ 1 (by decide))
      have c2 := hs.cell 2 (limbs_get _ 2 (by decide))
      have c3 := hs.cell 3 (limbs_get _ 3 (by decide))
      have c4 := hs.cell 4 (limbs_get _ 4 (by decide))
      have c5 := hs.cell 5 (limbs_get _ 5 (by decide))
      have f0 := hs.free 0
      have f1 := hs.free 1
      have f2 := hs.free 2
      have f3 := hs.free 3
      have f4 := hs.free 4
      have f5 := hs.free 5
      clear ha hb hlt
      go_wp2_with fail
      rw [hs.keep 0 _ (limbs_get _ 0 (by decide)), hs.keep 1 _ (limbs_get _ 1 (by decide)), hs.keep 2 _ (limbs_get _ 2 (by decide)), hs.keep 3 _ (limbs_get _ 3 (by decide)), hs.keep 4 _ (limbs_get _ 4 (by decide)), hs.keep 5 _ (limbs_get _ 5 (by decide))]
      refine bodyPost_ret (v := .tuple #[W (subN a b), .bool cb]) (by simp [results, Tryz.results122, go_sem, c0, c1, c2, c3, c4, c5, limbs]) rfl ⟨by rw [hc.out], hbel⟩
open Go.RowKit
theorem div_step (a k : Nat) : a / 2 ^ (64 * k) = a / 2 ^ (64 * (k + 1)) * 18446744073709551616 + limbN a k := by
  unfold limbN
  rw [pw_succ, ← Nat.div_div_eq_div_mul]
  have := Nat.div_add_mod (a / 2 ^ (64 * k)) 18446744073709551616
  omega
theorem cmp_less (a b k : Nat) (h : a / 2 ^ (64 * (k + 1)) = b / 2 ^ (64 * (k + 1))) (hl : limbN a k < limbN b k) : a < b := by
  have h1 := div_step a k
  have h2 := div_step b k
  rw [h] at h1
  rcases Nat.lt_or_ge a b with hab | hab
  · exact hab
  · have := Nat.div_le_div_right (c := 2 ^ (64 * k)) hab
    omega
theorem cmp_same (a b k : Nat) (h : a / 2 ^ (64 * (k + 1)) = b / 2 ^ (64 * (k + 1))) (hl : limbN a k = limbN b k) : a / 2 ^ (64 * k) = b / 2 ^ (64 * k) := by
  rw [div_step a k, div_step b k, h, hl]
def EqFrom (a b k : Nat) : Prop := a / 2 ^ (64 * k) = b / 2 ^ (64 * k)
theorem eqFrom6 {a b : Nat} (ha : a < top6) (hb : b < top6) : EqFrom a b 6 := by
  unfold top6 at ha hb
  unfold EqFrom
  rw [Nat.div_eq_of_lt ha, Nat.div_eq_of_lt hb]
theorem below_drewN {B : Nat} {w w' : World} (h : Below B w w') (n : Nat) : Below B w (w'.drewN n) := ⟨h.os, h.tape, h.output, h.size, h.block⟩
theorem limb_lt (a b k : Nat) : limb a k < limb b k ↔ limbN a k < limbN b k := by unfold limb; omega
theorem wideCmp_any (a b : Nat) (w : World) (ha : a < top6) (hb : b < top6) :
    Calls Tryz.prog 46 #[W a, W b] w fun e w' => e = .returned (.int .i64 (cmpN a b)) ∧ Below w.heap.size w w' := by
  have sa := limbs_size a
  have sb := limbs_size b
  have E6 := eqFrom6 ha hb
  clear ha hb
  go_enter Tryz.func46, Tryz.ntmps46
  go_wp2_with fail
  go_loopw [5] (fun i wr => ∃ k : Nat, k ≤ 6 ∧ i = .int .i64 ((k : Int) - 1) ∧ EqFrom a b k ∧ Blk 63 wr w.heap.size (limbs a) ∧ Blk 63 wr (w.heap.size + 1) (limbs b) ∧ Below w.heap.size w wr) (fun i _ => (intOf i + 1).toNat)
  case atStart =>
    refine ⟨6, by omega, rfl, E6, (Blk.new w _).alloc _, ?_, ((Below.refl _ _).alloc (Nat.le_refl _) _).alloc (by simp) _⟩
    have := Blk.new (T := 63) (w.alloc (.cells (limbs a) 63)) (limbs b)
    simpa using this
  case round =>
    obtain ⟨k, hk, rfl, hE, hA, hB, hbel⟩ := hrel
    cases k with
    | zero =>
      have Z := Lib.hid (show (0 : Int) = cmpN a b by
        have : a = b := by have := hE; unfold EqFrom at this; simpa using this
        unfold cmpN; rw [if_neg (by omega), if_neg (by omega)])
      clear hE
      go_wp2_with fail
      go_ret
      exact ⟨ret_int Z.out, hbel⟩
    | succ j =>
      have ca := hA.cell j (limbs_get a j (by omega))
      have cb := hB.cell j (limbs_get b j (by omega))
      rw [show ((j + 1 : Nat) : Int) - 1 = (j : Int) by omega]
      by_cases h1 : limb a j < limb b j
      · have Z := Lib.hid (show (-1 : Int) = cmpN a b by
          have := cmp_less a b j hE ((limb_lt a b j).1 h1)
          unfold cmpN; rw [if_pos this])
        have d1 : decide (limb a j < limb b j) = true := decide_eq_true h1
        clear hE
        go_wp2_with fail
        go_quiet (fail)
        go_wp2_with fail
        go_ret
        exact ⟨ret_int Z.out, below_drewN hbel _⟩
      · have d1 : decide (limb a j < limb b j) = false := decide_eq_false h1
        by_cases h2 : limb b j < limb a j
        · have Z := Lib.hid (show (1 : Int) = cmpN a b by
            have := cmp_less b a j hE.symm ((limb_lt b a j).1 h2)
            unfold cmpN; rw [if_neg (by omega), if_pos this])
          have d2 : decide (limb b j < limb a j) = true := decide_eq_true h2
          clear hE h1
          go_wp2_with fail
          go_quiet (fail)
          go_wp2_with fail
          go_quiet (fail)
          go_wp2_with fail
          go_ret
          exact ⟨ret_int Z.out, below_drewN (below_drewN hbel _) _⟩
        · have d2 : decide (limb b j < limb a j) = false := decide_eq_false h2
          have S : EqFrom a b j := cmp_same a b j hE (by unfold limb at h1 h2; omega)
          clear hE h1 h2
          go_wp2_with fail
          go_quiet (fail)
          go_wp2_with fail
          go_quiet (fail)
          go_wp2_with fail
          go_roundw
          case rel => exact ⟨j, by omega, rfl, S, hA, hB, below_drewN hbel _⟩
          case measure => simp [intOf]
open Go.RowKit
theorem top_bit_n (R n : Nat) (h : R < 2 ^ (n + 1)) : R.testBit n = decide (2 ^ (n + 1) ≤ 2 * R) := by
  rw [Nat.testBit_eq_decide_div_mod_eq]
  have hq : R / 2 ^ n < 2 := by rw [Nat.div_lt_iff_lt_mul (two_pos n), Nat.mul_comm, ← Nat.pow_succ]; exact h
  have hm := Nat.div_add_mod R (2 ^ n)
  have hl := Nat.mod_lt R (two_pos n)
  rw [Nat.pow_succ] at h ⊢
  generalize 2 ^ n = P at hq hm hl h ⊢
  generalize R / P = z at *
  have : z = 0 ∨ z = 1 := by omega
  rcases this with h0 | h0
  · rw [h0, Nat.mul_zero] at hm
    rw [h0, decide_eq_false (by decide), decide_eq_false (by omega)]
  · rw [h0, Nat.mul_one] at hm
    rw [h0, decide_eq_true (by decide), decide_eq_true (by omega)]
theorem top6_pow (n : Nat) (h : n = 64 * 6) : top6 = 2 ^ n := by subst h; exact top6.eq_1
theorem top6_even_n (n : Nat) (h : n + 1 = 64 * 6) : ∃ t, top6 = 2 * t := ⟨2 ^ n, by rw [top6_pow (n + 1) h, Nat.pow_succ, Nat.mul_comm]⟩
theorem top6_even : ∃ t, top6 = 2 * t := top6_even_n 383 rfl
theorem top_bit_m (R n : Nat) (hn : n + 1 = 64 * 6) (h : R < top6) : R.testBit n = decide (top6 ≤ 2 * R) := by
  have := top_bit_n R n (by rw [← top6_pow (n + 1) hn]; exact h)
  rw [← top6_pow (n + 1) hn] at this; exact this
theorem top_bit (R : Nat) (h : R < top6) : R.testBit 383 = decide (top6 ≤ 2 * R) := top_bit_m R 383 rfl h
theorem bit_of (a m : Nat) : a.testBit m = decide (a / 2 ^ m % 2 = 1) := Nat.testBit_eq_decide_div_mod_eq
theorem dbl_or (R : Nat) : R * 2 ||| 1 = 2 * R + 1 := by rw [or_one]; omega
theorem dbl (R : Nat) : R * 2 = 2 * R := Nat.mul_comm _ _
theorem set_bit (q m qi s : Nat) (hm : m = 64 * qi + s) (hs : s < 64) (h : m < 384) : setRow (limbs q) qi (#[.int .u64 (Go.bits .or .u64 (limb q qi) (IntKind.u64.wrap (2 ^ s)))] : Array Value).toList = limbs (q ||| 2 ^ m) := by
  have h1 : m / 64 = qi := by omega
  have h2 : m % 64 = s := by omega
  have h64 : 2 ^ s < 18446744073709551616 := by rw [B64]; exact Nat.pow_lt_pow_right (by decide) hs
  have hw : IntKind.u64.wrap ((2 : Int) ^ s) = ((2 ^ s : Nat) : Int) := by
    rw [show (2 : Int) ^ s = ((2 ^ s : Nat) : Int) by simp]
    generalize 2 ^ s = p at h64 ⊢
    rw [IntKind.wrap_u64]; omega
  have := limbs_or_bit q m h
  rw [h1, h2] at this
  rw [hw]; exact this
set_option maxHeartbeats 3200000 in
theorem quotDiv_any (a b : Nat) (w0 : World) (ha : a < top6) (hb : b < top6) (hb0 : b ≠ 0) :
    Calls Tryz.prog 191 #[W a, W b] w0 fun e w' => e = .returned (.tuple #[W (a / b), W (a % b), .int .i64 0]) ∧ Below w0.heap.size w0 w' := by
  have H := Own.start w0
  have hl4 : lenN a ≤ 384 := (lenN_le a 384).2 (by rw [show 384 = 64 * 6 from rfl, ← top6.eq_1]; exact ha)
  have cN := fun w => wideLen_any a w ha
  have eq1 : ∀ w, (Op.equalIn 10000 63 (.agg (limbs b)) (.agg #[.int .u64 0, .int .u64 0, .int .u64 0, .int .u64 0, .int .u64 0, .int .u64 0])).run Tryz.prog w = .ok false w := fun w => (run_equal_zero w b hb).trans (by rw [decide_eq_false hb0])
  have HA := Lib.hid ha
  have HB := Lib.hid hb
  have HB0 := Lib.hid (Nat.pos_of_ne_zero hb0)
  clear ha hb hb0
  go_enter Tryz.func191, Tryz.ntmps191
  go_wp2_with (first
    | ((with_reducible show wpList _ _ _ (⟨some 2, .box _ _, _, _, _, _⟩ :: _) _ _); refine H.xb ?_; (intro ga w H; simp only [Act.put, q1_, q2_, q3_]))
    | ((with_reducible show wpList _ _ _ (⟨some 3, .box _ _, _, _, _, _⟩ :: _) _ _); refine H.xb ?_; (intro gb w H; simp only [Act.put, q1_, q2_, q3_]))
    | ((with_reducible show wpList _ _ _ (⟨some 4, .alloc 63, _, _, _, _⟩ :: _) _ _); refine H.xa ?_; (intro gq w H; simp only [Act.put, q1_, q2_, q3_]))
    | ((with_reducible show wpList _ _ _ (⟨some 5, .alloc 63, _, _, _, _⟩ :: _) _ _); refine H.xa ?_; (intro gr w H; simp only [Act.put, q1_, q2_, q3_]))
    | ((with_reducible show wpList _ _ _ (⟨_, .store 25 _ _, _, _, _, _⟩ :: _) _ _); refine H.xt ?_ (hv := set_or1 _); (intro w H; simp only [Act.put]))
    | ((with_reducible show wpList _ _ _ (⟨_, .box _ _, _, _, _, _⟩ :: _) _ _); refine H.xb ?_; (intro g w H; simp only [Act.put, q1_, q2_, q3_]))
    | ((with_reducible show wpList _ _ _ (⟨_, .alloc _, _, _, _, _⟩ :: _) _ _); refine H.xa ?_; (intro g w H; simp only [Act.put, q1_, q2_, q3_]))
    | ((with_reducible show wpList _ _ _ (⟨_, .load _ _, _, _, _, _⟩ :: _) _ _); (first | refine H.xl ?_ | refine H.xm ?_); simp only [Act.put, q1_, q2_, q3_])
    | ((with_reducible show wpList _ _ _ (⟨_, .store _ _ _, _, _, _, _⟩ :: _) _ _); (first | refine H.xs ?_ | refine H.xt ?_); (intro w H; simp only [Act.put]))
    | (go_at_call 103; ((with_reducible refine (cN _).mono ?_); rintro e w ⟨rfl, hb⟩; replace H := H.call hb; clear hb))
    )
  go_loopw [7] (fun i wr => ∃ (k : Nat) (e : Int), e + 1 = k ∧ k ≤ 384 ∧ i = .int .i64 e ∧ Own w0 wr [(gr, 63, limbs (a / 2 ^ k % b)), (gq, 63, limbs (a / 2 ^ k / b * 2 ^ k)), (gb, 63, limbs b), (ga, 63, limbs a)]) (fun i _ => (intOf i + 1).toNat)
  case atStart =>
    refine ⟨lenN a, (lenN a : Int) - 1, by omega, hl4, rfl, ?_⟩
    rw [Nat.div_eq_of_lt (lenN_lt a), Nat.zero_mod, Nat.zero_div, Nat.zero_mul]; exact H
  case round =>
    clear H
    obtain ⟨k, e, hke, hk, rfl, H⟩ := hrel
    by_cases h0 : k = 0
    · subst h0
      obtain rfl : e = -1 := by omega
      rw [Nat.pow_zero, Nat.div_one, Nat.mul_one] at H
      clear cN
      go_wp2_with (first
    | ((with_reducible show wpList _ _ _ (⟨some 2, .box _ _, _, _, _, _⟩ :: _) _ _); refine H.xb ?_; (intro ga w H; simp only [Act.put, q1_, q2_, q3_]))
    | ((with_reducible show wpList _ _ _ (⟨some 3, .box _ _, _, _, _, _⟩ :: _) _ _); refine H.xb ?_; (intro gb w H; simp only [Act.put, q1_, q2_, q3_]))
    | ((with_reducible show wpList _ _ _ (⟨some 4, .alloc 63, _, _, _, _⟩ :: _) _ _); refine H.xa ?_; (intro gq w H; simp only [Act.put, q1_, q2_, q3_]))
    | ((with_reducible show wpList _ _ _ (⟨some 5, .alloc 63, _, _, _, _⟩ :: _) _ _); refine H.xa ?_; (intro gr w H; simp only [Act.put, q1_, q2_, q3_]))
    | ((with_reducible show wpList _ _ _ (⟨_, .store 25 _ _, _, _, _, _⟩ :: _) _ _); refine H.xt ?_ (hv := set_or1 _); (intro w H; simp only [Act.put]))
    | ((with_reducible show wpList _ _ _ (⟨_, .box _ _, _, _, _, _⟩ :: _) _ _); refine H.xb ?_; (intro g w H; simp only [Act.put, q1_, q2_, q3_]))
    | ((with_reducible show wpList _ _ _ (⟨_, .alloc _, _, _, _, _⟩ :: _) _ _); refine H.xa ?_; (intro g w H; simp only [Act.put, q1_, q2_, q3_]))
    | ((with_reducible show wpList _ _ _ (⟨_, .load _ _, _, _, _, _⟩ :: _) _ _); (first | refine H.xl ?_ | refine H.xm ?_); simp only [Act.put, q1_, q2_, q3_])
    | ((with_reducible show wpList _ _ _ (⟨_, .store _ _ _, _, _, _, _⟩ :: _) _ _); (first | refine H.xs ?_ | refine H.xt ?_); (intro w H; simp only [Act.put]))
    | ((with_reducible show Code.wp _ (.region 13 _ true) _ _ _); refine H.heldSub rfl (List.Sublist.refl _) ?_; intro H; (first | refine H.zl 0 ?_ | refine H.zm 0 ?_); (try simp only [Act.put, q1_, q2_, q3_]); (try simp only [q4_, q5_, q6_]); (first | refine H.zl 1 ?_ | refine H.zm 1 ?_); (try simp only [Act.put, q1_, q2_, q3_]); (try simp only [q4_, q5_, q6_]); refine held1 2 ?_; (first | refine H.ys ?_ | refine H.yt ?_); intro w H; refine H.nx ?_; (try simp only [Act.put]); refine held1 3 ?_; (first | refine H.ys ?_ | refine H.yt ?_); intro w H; refine H.nx ?_; (try simp only [Act.put]); refine H.zr 4 ?_; (try simp only [Act.put, q1_, q2_, q3_]); (try simp only [q4_, q5_, q6_]); refine wpAnyH_done (by kernel_rfl) ?_ _)
    )
      refine bodyPost_ret (results_cct rfl rfl (H.res rW v3_ (ext_limbs _) (by rfl)) rfl (H.res rW v3_ (ext_limbs _) (by rfl))) rfl ⟨?_, H.below⟩
      rfl
    · obtain ⟨m, rfl⟩ : ∃ m, k = m + 1 := ⟨k - 1, by omega⟩
      obtain rfl : e = (m : Int) := by omega
      have hR : a / 2 ^ (m + 1) % b < b := Nat.mod_lt _ HB0.out
      have hRt : a / 2 ^ (m + 1) % b < top6 := Nat.lt_trans hR HB.out
      obtain ⟨rd1, rd2⟩ := div_round a b m HB0.out
      have hor := or_bit (a / 2 ^ (m + 1) / b) m
      have hbit := bit_of a m
      have hd2 : a / 2 ^ m % 2 < 2 := Nat.mod_lt _ (by decide)
      generalize a / 2 ^ m % 2 = d at rd1 rd2 hbit hd2
      generalize hRR : a / 2 ^ (m + 1) % b = R at *
      generalize hQQ : a / 2 ^ (m + 1) / b * 2 ^ (m + 1) = q at *
      generalize hR2 : a / 2 ^ m % b = R2 at *
      generalize hQ2 : a / 2 ^ m / b * 2 ^ m = q2 at *
      have cT := fun w => wideBit_any R 383 w
      rw [show bitI R 383 = R.testBit 383 from bitI_in R 383 hRt, top_bit R hRt] at cT
      have cL := fun w => wideLeft_any R 1 w hRt
      rw [show clip 1 = 1 from rfl, Nat.pow_one] at cL
      have cB := fun w => wideBit_any a (m : Int) w
      rw [bitI_in a m HA.out, hbit] at cB
      obtain ⟨qi, hqi⟩ : ∃ qi : Nat, (m : Int) / 64 = qi := ⟨m / 64, by omega⟩
      obtain ⟨sh, hsh⟩ : ∃ sh : Nat, (m : Int) % 64 = sh := ⟨m % 64, by omega⟩
      have hm : m = 64 * qi + sh := by omega
      have hs64 : sh < 64 := by omega
      have HM := Lib.hid hm
      have hm384 : m < 384 := by omega
      have hq6 : qi < 6 := by omega
      clear hm
      have HRD1 := Lib.hid rd1
      have HRD2 := Lib.hid rd2
      have HOR := Lib.hid hor
      have HRt := Lib.hid hRt
      have HbT := HB.out
      have HR2 := Lib.hid hR2
      have HQ2 := Lib.hid hQ2
      clear rd1 rd2 hor hbit hRR hQQ hR2 hQ2 hR hRt cN h0
      have G : (limbs q)[qi]? = some (.int .u64 (limb q qi)) := limbs_get q qi hq6
      by_cases hd : d = 1
      · subst hd
        rw [decide_eq_true (by decide)] at cB
        by_cases ht : top6 ≤ 2 * R
        · rw [decide_eq_true ht] at cT
          have hge : b ≤ 2 * R + 1 := by omega
          have E1 := Lib.hid (show limbs R2 = limbs (subN (R * 2 ||| 1) b) by rw [(HRD1.out (by omega)).2, limbs_sub _ _ (by rw [dbl_or R]; omega), dbl_or R])
          have E2 := Lib.hid (show limbs q2 = limbs (q ||| 2 ^ m) by rw [(HRD1.out (by omega)).1, HOR.out])
          have cS := fun w => wideSub_any (R * 2 ||| 1) b w HbT
          clear HRD1 HRD2 HOR hge HbT ht
          go_wp2_with (first
    | ((with_reducible show wpList _ _ _ (⟨some 2, .box _ _, _, _, _, _⟩ :: _) _ _); refine H.xb ?_; (intro ga w H; simp only [Act.put, q1_, q2_, q3_]))
    | ((with_reducible show wpList _ _ _ (⟨some 3, .box _ _, _, _, _, _⟩ :: _) _ _); refine H.xb ?_; (intro gb w H; simp only [Act.put, q1_, q2_, q3_]))
    | ((with_reducible show wpList _ _ _ (⟨some 4, .alloc 63, _, _, _, _⟩ :: _) _ _); refine H.xa ?_; (intro gq w H; simp only [Act.put, q1_, q2_, q3_]))
    | ((with_reducible show wpList _ _ _ (⟨some 5, .alloc 63, _, _, _, _⟩ :: _) _ _); refine H.xa ?_; (intro gr w H; simp only [Act.put, q1_, q2_, q3_]))
    | ((with_reducible show wpList _ _ _ (⟨_, .load 25 _, _, _, _, _⟩ :: _) _ _); refine H.xm ?_ (hv := by first | with_reducible exact G); simp only [Act.put, q1_, q2_, q3_])
    | ((with_reducible show wpList _ _ _ (⟨_, .store 25 (.tmp 34) _, _, _, _, _⟩ :: _) _ _); refine H.xt ?_ (hv := set_or1 _); (intro w H; simp only [Act.put]))
    | ((with_reducible show wpList _ _ _ (⟨_, .store 25 (.tmp 57) _, _, _, _, _⟩ :: _) _ _); refine H.xt ?_ (hv := set_bit _ m _ _ HM.out hs64 hm384); (intro w H; simp only [Act.put]))
    | ((with_reducible show wpList _ _ _ (⟨_, .box _ _, _, _, _, _⟩ :: _) _ _); refine H.xb ?_; (intro g w H; simp only [Act.put, q1_, q2_, q3_]))
    | ((with_reducible show wpList _ _ _ (⟨_, .alloc _, _, _, _, _⟩ :: _) _ _); refine H.xa ?_; (intro g w H; simp only [Act.put, q1_, q2_, q3_]))
    | ((with_reducible show wpList _ _ _ (⟨_, .load _ _, _, _, _, _⟩ :: _) _ _); (first | refine H.xl ?_ | refine H.xm ?_); simp only [Act.put, q1_, q2_, q3_])
    | ((with_reducible show wpList _ _ _ (⟨_, .store _ _ _, _, _, _, _⟩ :: _) _ _); (first | refine H.xs ?_ | refine H.xt ?_); (intro w H; simp only [Act.put]))
    | (go_at_call 198; ((with_reducible refine (cT _).mono ?_); rintro e w ⟨rfl, hb⟩; replace H := H.call hb; clear hb))
    | (go_at_call 104; ((with_reducible refine (cL _).mono ?_); rintro e w ⟨rfl, hb⟩; replace H := H.call hb; clear hb))
    | (go_at_call 198; ((with_reducible refine (cB _).mono ?_); rintro e w ⟨rfl, hb⟩; replace H := H.call hb; clear hb))
    | (go_at_call 122; ((with_reducible refine (cS _).mono ?_); rintro e w ⟨rfl, hb⟩; replace H := H.call hb; clear hb))
    )
          all_goals
            go_roundw
            case rel => exact ⟨m, (m : Int) - 1, by omega, by omega, by go_num, by rw [HR2.out, HQ2.out, E1.out, E2.out]; exact H⟩
            case measure => simp [intOf] <;> omega
        · rw [decide_eq_false ht] at cT
          have cC := fun w => wideCmp_any (R * 2 ||| 1) b w (by rw [dbl_or R]; obtain ⟨t, ht6⟩ := top6_even; omega) HbT
          by_cases hge : b ≤ 2 * R + 1
          · have hc : decide (0 ≤ cmpN (R * 2 ||| 1) b) = true := by unfold cmpN; rw [dbl_or R, if_neg (by omega)]; split <;> decide
            have E1 := Lib.hid (show limbs R2 = limbs (subN (R * 2 ||| 1) b) by rw [(HRD1.out (by omega)).2, limbs_sub _ _ (by rw [dbl_or R]; omega), dbl_or R])
            have E2 := Lib.hid (show limbs q2 = limbs (q ||| 2 ^ m) by rw [(HRD1.out (by omega)).1, HOR.out])
            have cS := fun w => wideSub_any (R * 2 ||| 1) b w HbT
            clear HRD1 HRD2 HOR hge HbT ht
            go_wp2_with (first
    | ((with_reducible show wpList _ _ _ (⟨some 2, .box _ _, _, _, _, _⟩ :: _) _ _); refine H.xb ?_; (intro ga w H; simp only [Act.put, q1_, q2_, q3_]))
    | ((with_reducible show wpList _ _ _ (⟨some 3, .box _ _, _, _, _, _⟩ :: _) _ _); refine H.xb ?_; (intro gb w H; simp only [Act.put, q1_, q2_, q3_]))
    | ((with_reducible show wpList _ _ _ (⟨some 4, .alloc 63, _, _, _, _⟩ :: _) _ _); refine H.xa ?_; (intro gq w H; simp only [Act.put, q1_, q2_, q3_]))
    | ((with_reducible show wpList _ _ _ (⟨some 5, .alloc 63, _, _, _, _⟩ :: _) _ _); refine H.xa ?_; (intro gr w H; simp only [Act.put, q1_, q2_, q3_]))
    | ((with_reducible show wpList _ _ _ (⟨_, .load 25 _, _, _, _, _⟩ :: _) _ _); refine H.xm ?_ (hv := by first | with_reducible exact G); simp only [Act.put, q1_, q2_, q3_])
    | ((with_reducible show wpList _ _ _ (⟨_, .store 25 (.tmp 34) _, _, _, _, _⟩ :: _) _ _); refine H.xt ?_ (hv := set_or1 _); (intro w H; simp only [Act.put]))
    | ((with_reducible show wpList _ _ _ (⟨_, .store 25 (.tmp 57) _, _, _, _, _⟩ :: _) _ _); refine H.xt ?_ (hv := set_bit _ m _ _ HM.out hs64 hm384); (intro w H; simp only [Act.put]))
    | ((with_reducible show wpList _ _ _ (⟨_, .box _ _, _, _, _, _⟩ :: _) _ _); refine H.xb ?_; (intro g w H; simp only [Act.put, q1_, q2_, q3_]))
    | ((with_reducible show wpList _ _ _ (⟨_, .alloc _, _, _, _, _⟩ :: _) _ _); refine H.xa ?_; (intro g w H; simp only [Act.put, q1_, q2_, q3_]))
    | ((with_reducible show wpList _ _ _ (⟨_, .load _ _, _, _, _, _⟩ :: _) _ _); (first | refine H.xl ?_ | refine H.xm ?_); simp only [Act.put, q1_, q2_, q3_])
    | ((with_reducible show wpList _ _ _ (⟨_, .store _ _ _, _, _, _, _⟩ :: _) _ _); (first | refine H.xs ?_ | refine H.xt ?_); (intro w H; simp only [Act.put]))
    | (go_at_call 198; ((with_reducible refine (cT _).mono ?_); rintro e w ⟨rfl, hb⟩; replace H := H.call hb; clear hb))
    | (go_at_call 104; ((with_reducible refine (cL _).mono ?_); rintro e w ⟨rfl, hb⟩; replace H := H.call hb; clear hb))
    | (go_at_call 198; ((with_reducible refine (cB _).mono ?_); rintro e w ⟨rfl, hb⟩; replace H := H.call hb; clear hb))
    | (go_at_call 46; ((with_reducible refine (cC _).mono ?_); rintro e w ⟨rfl, hb⟩; replace H := H.call hb; clear hb))
    | (go_at_call 122; ((with_reducible refine (cS _).mono ?_); rintro e w ⟨rfl, hb⟩; replace H := H.call hb; clear hb))
    )
            all_goals
              go_roundw
              case rel => exact ⟨m, (m : Int) - 1, by omega, by omega, by go_num, by rw [HR2.out, HQ2.out, E1.out, E2.out]; exact H⟩
              case measure => simp [intOf] <;> omega
          · have hc : decide (0 ≤ cmpN (R * 2 ||| 1) b) = false := by unfold cmpN; rw [dbl_or R, if_pos (by omega)]; decide
            have E1 := Lib.hid (show limbs R2 = limbs (R * 2 ||| 1) by rw [(HRD2.out (by omega)).2, dbl_or R])
            have E2 := Lib.hid (show limbs q2 = limbs q by rw [(HRD2.out (by omega)).1])
            clear HRD1 HRD2 HOR hge HbT ht
            go_wp2_with (first
    | ((with_reducible show wpList _ _ _ (⟨some 2, .box _ _, _, _, _, _⟩ :: _) _ _); refine H.xb ?_; (intro ga w H; simp only [Act.put, q1_, q2_, q3_]))
    | ((with_reducible show wpList _ _ _ (⟨some 3, .box _ _, _, _, _, _⟩ :: _) _ _); refine H.xb ?_; (intro gb w H; simp only [Act.put, q1_, q2_, q3_]))
    | ((with_reducible show wpList _ _ _ (⟨some 4, .alloc 63, _, _, _, _⟩ :: _) _ _); refine H.xa ?_; (intro gq w H; simp only [Act.put, q1_, q2_, q3_]))
    | ((with_reducible show wpList _ _ _ (⟨some 5, .alloc 63, _, _, _, _⟩ :: _) _ _); refine H.xa ?_; (intro gr w H; simp only [Act.put, q1_, q2_, q3_]))
    | ((with_reducible show wpList _ _ _ (⟨_, .load 25 _, _, _, _, _⟩ :: _) _ _); refine H.xm ?_ (hv := by first | with_reducible exact G); simp only [Act.put, q1_, q2_, q3_])
    | ((with_reducible show wpList _ _ _ (⟨_, .store 25 (.tmp 34) _, _, _, _, _⟩ :: _) _ _); refine H.xt ?_ (hv := set_or1 _); (intro w H; simp only [Act.put]))
    | ((with_reducible show wpList _ _ _ (⟨_, .store 25 (.tmp 57) _, _, _, _, _⟩ :: _) _ _); refine H.xt ?_ (hv := set_bit _ m _ _ HM.out hs64 hm384); (intro w H; simp only [Act.put]))
    | ((with_reducible show wpList _ _ _ (⟨_, .box _ _, _, _, _, _⟩ :: _) _ _); refine H.xb ?_; (intro g w H; simp only [Act.put, q1_, q2_, q3_]))
    | ((with_reducible show wpList _ _ _ (⟨_, .alloc _, _, _, _, _⟩ :: _) _ _); refine H.xa ?_; (intro g w H; simp only [Act.put, q1_, q2_, q3_]))
    | ((with_reducible show wpList _ _ _ (⟨_, .load _ _, _, _, _, _⟩ :: _) _ _); (first | refine H.xl ?_ | refine H.xm ?_); simp only [Act.put, q1_, q2_, q3_])
    | ((with_reducible show wpList _ _ _ (⟨_, .store _ _ _, _, _, _, _⟩ :: _) _ _); (first | refine H.xs ?_ | refine H.xt ?_); (intro w H; simp only [Act.put]))
    | (go_at_call 198; ((with_reducible refine (cT _).mono ?_); rintro e w ⟨rfl, hb⟩; replace H := H.call hb; clear hb))
    | (go_at_call 104; ((with_reducible refine (cL _).mono ?_); rintro e w ⟨rfl, hb⟩; replace H := H.call hb; clear hb))
    | (go_at_call 198; ((with_reducible refine (cB _).mono ?_); rintro e w ⟨rfl, hb⟩; replace H := H.call hb; clear hb))
    | (go_at_call 46; ((with_reducible refine (cC _).mono ?_); rintro e w ⟨rfl, hb⟩; replace H := H.call hb; clear hb))
    )
            all_goals
              go_roundw
              case rel => exact ⟨m, (m : Int) - 1, by omega, by omega, by go_num, by rw [HR2.out, HQ2.out, E1.out, E2.out]; exact H⟩
              case measure => simp [intOf] <;> omega
      · obtain rfl : d = 0 := by omega
        rw [decide_eq_false (by decide)] at cB
        by_cases ht : top6 ≤ 2 * R
        · rw [decide_eq_true ht] at cT
          have hge : b ≤ 2 * R := by omega
          have E1 := Lib.hid (show limbs R2 = limbs (subN (R * 2) b) by rw [(HRD1.out (by omega)).2, limbs_sub _ _ (by rw [dbl R]; omega), dbl R]; rfl)
          have E2 := Lib.hid (show limbs q2 = limbs (q ||| 2 ^ m) by rw [(HRD1.out (by omega)).1, HOR.out])
          have cS := fun w => wideSub_any (R * 2) b w HbT
          clear HRD1 HRD2 HOR hge HbT ht
          go_wp2_with (first
    | ((with_reducible show wpList _ _ _ (⟨some 2, .box _ _, _, _, _, _⟩ :: _) _ _); refine H.xb ?_; (intro ga w H; simp only [Act.put, q1_, q2_, q3_]))
    | ((with_reducible show wpList _ _ _ (⟨some 3, .box _ _, _, _, _, _⟩ :: _) _ _); refine H.xb ?_; (intro gb w H; simp only [Act.put, q1_, q2_, q3_]))
    | ((with_reducible show wpList _ _ _ (⟨some 4, .alloc 63, _, _, _, _⟩ :: _) _ _); refine H.xa ?_; (intro gq w H; simp only [Act.put, q1_, q2_, q3_]))
    | ((with_reducible show wpList _ _ _ (⟨some 5, .alloc 63, _, _, _, _⟩ :: _) _ _); refine H.xa ?_; (intro gr w H; simp only [Act.put, q1_, q2_, q3_]))
    | ((with_reducible show wpList _ _ _ (⟨_, .load 25 _, _, _, _, _⟩ :: _) _ _); refine H.xm ?_ (hv := by first | with_reducible exact G); simp only [Act.put, q1_, q2_, q3_])
    | ((with_reducible show wpList _ _ _ (⟨_, .store 25 (.tmp 34) _, _, _, _, _⟩ :: _) _ _); refine H.xt ?_ (hv := set_or1 _); (intro w H; simp only [Act.put]))
    | ((with_reducible show wpList _ _ _ (⟨_, .store 25 (.tmp 57) _, _, _, _, _⟩ :: _) _ _); refine H.xt ?_ (hv := set_bit _ m _ _ HM.out hs64 hm384); (intro w H; simp only [Act.put]))
    | ((with_reducible show wpList _ _ _ (⟨_, .box _ _, _, _, _, _⟩ :: _) _ _); refine H.xb ?_; (intro g w H; simp only [Act.put, q1_, q2_, q3_]))
    | ((with_reducible show wpList _ _ _ (⟨_, .alloc _, _, _, _, _⟩ :: _) _ _); refine H.xa ?_; (intro g w H; simp only [Act.put, q1_, q2_, q3_]))
    | ((with_reducible show wpList _ _ _ (⟨_, .load _ _, _, _, _, _⟩ :: _) _ _); (first | refine H.xl ?_ | refine H.xm ?_); simp only [Act.put, q1_, q2_, q3_])
    | ((with_reducible show wpList _ _ _ (⟨_, .store _ _ _, _, _, _, _⟩ :: _) _ _); (first | refine H.xs ?_ | refine H.xt ?_); (intro w H; simp only [Act.put]))
    | (go_at_call 198; ((with_reducible refine (cT _).mono ?_); rintro e w ⟨rfl, hb⟩; replace H := H.call hb; clear hb))
    | (go_at_call 104; ((with_reducible refine (cL _).mono ?_); rintro e w ⟨rfl, hb⟩; replace H := H.call hb; clear hb))
    | (go_at_call 198; ((with_reducible refine (cB _).mono ?_); rintro e w ⟨rfl, hb⟩; replace H := H.call hb; clear hb))
    | (go_at_call 122; ((with_reducible refine (cS _).mono ?_); rintro e w ⟨rfl, hb⟩; replace H := H.call hb; clear hb))
    )
          all_goals
            go_roundw
            case rel => exact ⟨m, (m : Int) - 1, by omega, by omega, by go_num, by rw [HR2.out, HQ2.out, E1.out, E2.out]; exact H⟩
            case measure => simp [intOf] <;> omega
        · rw [decide_eq_false ht] at cT
          have cC := fun w => wideCmp_any (R * 2) b w (by rw [dbl R]; obtain ⟨t, ht6⟩ := top6_even; omega) HbT
          by_cases hge : b ≤ 2 * R
          · have hc : decide (0 ≤ cmpN (R * 2) b) = true := by unfold cmpN; rw [dbl R, if_neg (by omega)]; split <;> decide
            have E1 := Lib.hid (show limbs R2 = limbs (subN (R * 2) b) by rw [(HRD1.out (by omega)).2, limbs_sub _ _ (by rw [dbl R]; omega), dbl R]; rfl)
            have E2 := Lib.hid (show limbs q2 = limbs (q ||| 2 ^ m) by rw [(HRD1.out (by omega)).1, HOR.out])
            have cS := fun w => wideSub_any (R * 2) b w HbT
            clear HRD1 HRD2 HOR hge HbT ht
            go_wp2_with (first
    | ((with_reducible show wpList _ _ _ (⟨some 2, .box _ _, _, _, _, _⟩ :: _) _ _); refine H.xb ?_; (intro ga w H; simp only [Act.put, q1_, q2_, q3_]))
    | ((with_reducible show wpList _ _ _ (⟨some 3, .box _ _, _, _, _, _⟩ :: _) _ _); refine H.xb ?_; (intro gb w H; simp only [Act.put, q1_, q2_, q3_]))
    | ((with_reducible show wpList _ _ _ (⟨some 4, .alloc 63, _, _, _, _⟩ :: _) _ _); refine H.xa ?_; (intro gq w H; simp only [Act.put, q1_, q2_, q3_]))
    | ((with_reducible show wpList _ _ _ (⟨some 5, .alloc 63, _, _, _, _⟩ :: _) _ _); refine H.xa ?_; (intro gr w H; simp only [Act.put, q1_, q2_, q3_]))
    | ((with_reducible show wpList _ _ _ (⟨_, .load 25 _, _, _, _, _⟩ :: _) _ _); refine H.xm ?_ (hv := by first | with_reducible exact G); simp only [Act.put, q1_, q2_, q3_])
    | ((with_reducible show wpList _ _ _ (⟨_, .store 25 (.tmp 34) _, _, _, _, _⟩ :: _) _ _); refine H.xt ?_ (hv := set_or1 _); (intro w H; simp only [Act.put]))
    | ((with_reducible show wpList _ _ _ (⟨_, .store 25 (.tmp 57) _, _, _, _, _⟩ :: _) _ _); refine H.xt ?_ (hv := set_bit _ m _ _ HM.out hs64 hm384); (intro w H; simp only [Act.put]))
    | ((with_reducible show wpList _ _ _ (⟨_, .box _ _, _, _, _, _⟩ :: _) _ _); refine H.xb ?_; (intro g w H; simp only [Act.put, q1_, q2_, q3_]))
    | ((with_reducible show wpList _ _ _ (⟨_, .alloc _, _, _, _, _⟩ :: _) _ _); refine H.xa ?_; (intro g w H; simp only [Act.put, q1_, q2_, q3_]))
    | ((with_reducible show wpList _ _ _ (⟨_, .load _ _, _, _, _, _⟩ :: _) _ _); (first | refine H.xl ?_ | refine H.xm ?_); simp only [Act.put, q1_, q2_, q3_])
    | ((with_reducible show wpList _ _ _ (⟨_, .store _ _ _, _, _, _, _⟩ :: _) _ _); (first | refine H.xs ?_ | refine H.xt ?_); (intro w H; simp only [Act.put]))
    | (go_at_call 198; ((with_reducible refine (cT _).mono ?_); rintro e w ⟨rfl, hb⟩; replace H := H.call hb; clear hb))
    | (go_at_call 104; ((with_reducible refine (cL _).mono ?_); rintro e w ⟨rfl, hb⟩; replace H := H.call hb; clear hb))
    | (go_at_call 198; ((with_reducible refine (cB _).mono ?_); rintro e w ⟨rfl, hb⟩; replace H := H.call hb; clear hb))
    | (go_at_call 46; ((with_reducible refine (cC _).mono ?_); rintro e w ⟨rfl, hb⟩; replace H := H.call hb; clear hb))
    | (go_at_call 122; ((with_reducible refine (cS _).mono ?_); rintro e w ⟨rfl, hb⟩; replace H := H.call hb; clear hb))
    )
            all_goals
              go_roundw
              case rel => exact ⟨m, (m : Int) - 1, by omega, by omega, by go_num, by rw [HR2.out, HQ2.out, E1.out, E2.out]; exact H⟩
              case measure => simp [intOf] <;> omega
          · have hc : decide (0 ≤ cmpN (R * 2) b) = false := by unfold cmpN; rw [dbl R, if_pos (by omega)]; decide
            have E1 := Lib.hid (show limbs R2 = limbs (R * 2) by rw [(HRD2.out (by omega)).2, dbl R]; rfl)
            have E2 := Lib.hid (show limbs q2 = limbs q by rw [(HRD2.out (by omega)).1])
            clear HRD1 HRD2 HOR hge HbT ht
            go_wp2_with (first
    | ((with_reducible show wpList _ _ _ (⟨some 2, .box _ _, _, _, _, _⟩ :: _) _ _); refine H.xb ?_; (intro ga w H; simp only [Act.put, q1_, q2_, q3_]))
    | ((with_reducible show wpList _ _ _ (⟨some 3, .box _ _, _, _, _, _⟩ :: _) _ _); refine H.xb ?_; (intro gb w H; simp only [Act.put, q1_, q2_, q3_]))
    | ((with_reducible show wpList _ _ _ (⟨some 4, .alloc 63, _, _, _, _⟩ :: _) _ _); refine H.xa ?_; (intro gq w H; simp only [Act.put, q1_, q2_, q3_]))
    | ((with_reducible show wpList _ _ _ (⟨some 5, .alloc 63, _, _, _, _⟩ :: _) _ _); refine H.xa ?_; (intro gr w H; simp only [Act.put, q1_, q2_, q3_]))
    | ((with_reducible show wpList _ _ _ (⟨_, .load 25 _, _, _, _, _⟩ :: _) _ _); refine H.xm ?_ (hv := by first | with_reducible exact G); simp only [Act.put, q1_, q2_, q3_])
    | ((with_reducible show wpList _ _ _ (⟨_, .store 25 (.tmp 34) _, _, _, _, _⟩ :: _) _ _); refine H.xt ?_ (hv := set_or1 _); (intro w H; simp only [Act.put]))
    | ((with_reducible show wpList _ _ _ (⟨_, .store 25 (.tmp 57) _, _, _, _, _⟩ :: _) _ _); refine H.xt ?_ (hv := set_bit _ m _ _ HM.out hs64 hm384); (intro w H; simp only [Act.put]))
    | ((with_reducible show wpList _ _ _ (⟨_, .box _ _, _, _, _, _⟩ :: _) _ _); refine H.xb ?_; (intro g w H; simp only [Act.put, q1_, q2_, q3_]))
    | ((with_reducible show wpList _ _ _ (⟨_, .alloc _, _, _, _, _⟩ :: _) _ _); refine H.xa ?_; (intro g w H; simp only [Act.put, q1_, q2_, q3_]))
    | ((with_reducible show wpList _ _ _ (⟨_, .load _ _, _, _, _, _⟩ :: _) _ _); (first | refine H.xl ?_ | refine H.xm ?_); simp only [Act.put, q1_, q2_, q3_])
    | ((with_reducible show wpList _ _ _ (⟨_, .store _ _ _, _, _, _, _⟩ :: _) _ _); (first | refine H.xs ?_ | refine H.xt ?_); (intro w H; simp only [Act.put]))
    | (go_at_call 198; ((with_reducible refine (cT _).mono ?_); rintro e w ⟨rfl, hb⟩; replace H := H.call hb; clear hb))
    | (go_at_call 104; ((with_reducible refine (cL _).mono ?_); rintro e w ⟨rfl, hb⟩; replace H := H.call hb; clear hb))
    | (go_at_call 198; ((with_reducible refine (cB _).mono ?_); rintro e w ⟨rfl, hb⟩; replace H := H.call hb; clear hb))
    | (go_at_call 46; ((with_reducible refine (cC _).mono ?_); rintro e w ⟨rfl, hb⟩; replace H := H.call hb; clear hb))
    )
            all_goals
              go_roundw
              case rel => exact ⟨m, (m : Int) - 1, by omega, by omega, by go_num, by rw [HR2.out, HQ2.out, E1.out, E2.out]; exact H⟩
              case measure => simp [intOf] <;> omega
open Go.RowKit
theorem quotDigits_any (a b : Nat) (n : Int) (w : World) (hn : 0 ≤ n) (hn2 : n ≤ 384) (ha : a < top6) (hb : b < top6) (hb0 : b ≠ 0) (hx : a * 2 ^ n.toNat < top6) :
    Calls Tryz.prog 112 #[W a, W b, .int .i64 n] w fun e w' => e = .returned (.tuple #[W (a * 2 ^ n.toNat / b), .bool (!decide (a * 2 ^ n.toNat % b = 0)), .int .i64 0]) ∧ Below w.heap.size w w' := by
  have cL := fun w => wideLeft_any a n w ha
  have hc : clip n = n.toNat := by unfold clip; omega
  have hlo : lostL a n.toNat = false := by rw [lostL_iff, decide_eq_false_iff_not]; omega
  rw [hc, hlo] at cL
  exact quotDigits_ok a b _ _ _ n w hn hn2 hb (decide_eq_false hb0) (Nat.lt_trans (Nat.mod_lt _ (Nat.pos_of_ne_zero hb0)) hb) cL (fun w => quotDiv_any _ b w hx hb hb0)
open Go.RowKit
theorem divSort_n (c s f : Nat) (x : Int) (w : World) (cz : CK_ 189 #[PV c s x f] (.bool true))  :
    Calls Tryz.prog 111 #[PV c s x f] w fun e w' => e = .returned (.int .u8 110) ∧ Below w.heap.size w w' := by
  have H := Own.start w
  go_enter Tryz.func111, Tryz.ntmps111
  exact walk2
theorem divSort_i (c s f : Nat) (x : Int) (w : World) (cz : CK_ 189 #[PV c s x f] (.bool false)) (ci : CK_ 190 #[PV c s x f] (.bool true))  :
    Calls Tryz.prog 111 #[PV c s x f] w fun e w' => e = .returned (.int .u8 105) ∧ Below w.heap.size w w' := by
  have H := Own.start w
  go_enter Tryz.func111, Tryz.ntmps111
  exact walk2
theorem divSort_f (c s f : Nat) (x : Int) (w : World) (cz : CK_ 189 #[PV c s x f] (.bool false)) (ci : CK_ 190 #[PV c s x f] (.bool false))  :
    Calls Tryz.prog 111 #[PV c s x f] w fun e w' => e = .returned (.int .u8 102) ∧ Below w.heap.size w w' := by
  have H := Own.start w
  go_enter Tryz.func111, Tryz.ntmps111
  exact walk2
def sortN (c : Nat) : Int := if zerB c = true then 110 else if infB c = true then 105 else 102
theorem divSort_any (c s f : Nat) (x : Int) (w : World) : Calls Tryz.prog 111 #[PV c s x f] w fun e w' => e = .returned (.int .u8 (sortN c)) ∧ Below w.heap.size w w' := by
  have cz := fun w => div_nought c s f x w
  have ci := fun w => div_inf c s f x w
  unfold sortN
  cases hz : zerB c
  · rw [hz] at cz
    cases hi : infB c
    · rw [hi] at ci; exact divSort_f c s f x w cz ci
    · rw [hi] at ci; exact divSort_i c s f x w cz ci
  · rw [hz] at cz; exact divSort_n c s f x w cz
theorem divDiv_no (f m a b : Nat) (c1 s1 f1 : Nat) (x1 : Int) (c2 s2 f2 : Nat) (x2 : Int) (c3 s3 f3 : Nat) (x3 : Int) (w : World) (hT : Tab w) (cO : ∀ w g, Tab w → Blk 27 w g (cat2 (bc a) (bc b)) → Calls Tryz.prog 107 #[.int .u8 f, .int .u8 m, .slice (some ⟨g, 0, none⟩) 2 2] w fun e w' => e = .returned (.tuple #[.agg (tri c1 s1 x1 f1 c2 s2 x2 f2 c3 s3 x3 f3), .bool false]) ∧ Below w.heap.size w w') :
    Calls Tryz.prog 31 #[.int .u8 f, .int .u8 m, BV a, BV b] w fun e w' => e = .returned (.tuple #[BV 0, .int .u8 0, .int .i64 2]) ∧ Below w.heap.size w w' := by
  have H := Own.start w
  have HT := Lib.hid hT
  clear hT
  go_enter Tryz.func31, Tryz.ntmps31
  exact walk1
open Go.RowKit
theorem divDiv_N1 (f m a b : Nat) (c1 s1 f1 : Nat) (x1 : Int) (c2 s2 f2 : Nat) (x2 : Int) (c3 s3 f3 : Nat) (x3 : Int) (b1 b2 : Bool) (w : World) (hT : Tab w) (cO : ∀ w g, Tab w → Blk 27 w g (cat2 (bc a) (bc b)) → Calls Tryz.prog 107 #[.int .u8 f, .int .u8 m, .slice (some ⟨g, 0, none⟩) 2 2] w fun e w' => e = .returned (.tuple #[.agg (tri c1 s1 x1 f1 c2 s2 x2 f2 c3 s3 x3 f3), .bool true]) ∧ Below w.heap.size w w') (cb1 : CK_ 110 #[PV c1 s1 x1 f1] (.bool b1)) (cb2 : CK_ 110 #[PV c2 s2 x2 f2] (.bool b2)) (cn1 : CK_ 108 #[PV c1 s1 x1 f1] (.bool true)) (cn : Nat) (fl : Int) (cC : ∀ w g, Blk 103 w g (cat2 (parts c1 s1 x1 f1) (parts c2 s2 x2 f2)) → Calls Tryz.prog 109 #[.int .u8 f, .slice (some ⟨g, 0, none⟩) 2 2] w fun e w' => e = .returned (.tuple #[BV cn, .int .u8 fl, .int .i64 0]) ∧ Below w.heap.size w w') :
    Calls Tryz.prog 31 #[.int .u8 f, .int .u8 m, BV a, BV b] w fun e w' => e = .returned (.tuple #[BV cn, .int .u8 fl, .int .i64 0]) ∧ Below w.heap.size w w' := by
  have H := Own.start w
  have HT := Lib.hid hT
  clear hT
  go_enter Tryz.func31, Tryz.ntmps31
  exact walk1
theorem divDiv_N2 (f m a b : Nat) (c1 s1 f1 : Nat) (x1 : Int) (c2 s2 f2 : Nat) (x2 : Int) (c3 s3 f3 : Nat) (x3 : Int) (b1 b2 : Bool) (w : World) (hT : Tab w) (cO : ∀ w g, Tab w → Blk 27 w g (cat2 (bc a) (bc b)) → Calls Tryz.prog 107 #[.int .u8 f, .int .u8 m, .slice (some ⟨g, 0, none⟩) 2 2] w fun e w' => e = .returned (.tuple #[.agg (tri c1 s1 x1 f1 c2 s2 x2 f2 c3 s3 x3 f3), .bool true]) ∧ Below w.heap.size w w') (cb1 : CK_ 110 #[PV c1 s1 x1 f1] (.bool b1)) (cb2 : CK_ 110 #[PV c2 s2 x2 f2] (.bool b2)) (cn1 : CK_ 108 #[PV c1 s1 x1 f1] (.bool false)) (cn2 : CK_ 108 #[PV c2 s2 x2 f2] (.bool true)) (cn : Nat) (fl : Int) (cC : ∀ w g, Blk 103 w g (cat2 (parts c1 s1 x1 f1) (parts c2 s2 x2 f2)) → Calls Tryz.prog 109 #[.int .u8 f, .slice (some ⟨g, 0, none⟩) 2 2] w fun e w' => e = .returned (.tuple #[BV cn, .int .u8 fl, .int .i64 0]) ∧ Below w.heap.size w w') :
    Calls Tryz.prog 31 #[.int .u8 f, .int .u8 m, BV a, BV b] w fun e w' => e = .returned (.tuple #[BV cn, .int .u8 fl, .int .i64 0]) ∧ Below w.heap.size w w' := by
  have H := Own.start w
  have HT := Lib.hid hT
  clear hT
  go_enter Tryz.func31, Tryz.ntmps31
  exact walk1
theorem divDiv_II (f m a b : Nat) (c1 s1 f1 : Nat) (x1 : Int) (c2 s2 f2 : Nat) (x2 : Int) (c3 s3 f3 : Nat) (x3 : Int) (b1 b2 : Bool) (w : World) (hT : Tab w) (cO : ∀ w g, Tab w → Blk 27 w g (cat2 (bc a) (bc b)) → Calls Tryz.prog 107 #[.int .u8 f, .int .u8 m, .slice (some ⟨g, 0, none⟩) 2 2] w fun e w' => e = .returned (.tuple #[.agg (tri c1 s1 x1 f1 c2 s2 x2 f2 c3 s3 x3 f3), .bool true]) ∧ Below w.heap.size w w') (cb1 : CK_ 110 #[PV c1 s1 x1 f1] (.bool b1)) (cb2 : CK_ 110 #[PV c2 s2 x2 f2] (.bool b2)) (cn1 : CK_ 108 #[PV c1 s1 x1 f1] (.bool false)) (cs1 : CK_ 111 #[PV c1 s1 x1 f1] (.int .u8 105)) (cn2 : CK_ 108 #[PV c2 s2 x2 f2] (.bool false)) (cs2 : CK_ 111 #[PV c2 s2 x2 f2] (.int .u8 105)) (nn : Nat) (cNN : CK_ 74 #[.int .u8 f] (BV nn)) :
    Calls Tryz.prog 31 #[.int .u8 f, .int .u8 m, BV a, BV b] w fun e w' => e = .returned (.tuple #[BV nn, .int .u8 16, .int .i64 0]) ∧ Below w.heap.size w w' := by
  have H := Own.start w
  have HT := Lib.hid hT
  clear hT
  go_enter Tryz.func31, Tryz.ntmps31
  exact walk1
theorem divDiv_ZZ (f m a b : Nat) (c1 s1 f1 : Nat) (x1 : Int) (c2 s2 f2 : Nat) (x2 : Int) (c3 s3 f3 : Nat) (x3 : Int) (b1 b2 : Bool) (w : World) (hT : Tab w) (cO : ∀ w g, Tab w → Blk 27 w g (cat2 (bc a) (bc b)) → Calls Tryz.prog 107 #[.int .u8 f, .int .u8 m, .slice (some ⟨g, 0, none⟩) 2 2] w fun e w' => e = .returned (.tuple #[.agg (tri c1 s1 x1 f1 c2 s2 x2 f2 c3 s3 x3 f3), .bool true]) ∧ Below w.heap.size w w') (cb1 : CK_ 110 #[PV c1 s1 x1 f1] (.bool b1)) (cb2 : CK_ 110 #[PV c2 s2 x2 f2] (.bool b2)) (cn1 : CK_ 108 #[PV c1 s1 x1 f1] (.bool false)) (cs1 : CK_ 111 #[PV c1 s1 x1 f1] (.int .u8 110)) (cn2 : CK_ 108 #[PV c2 s2 x2 f2] (.bool false)) (cs2 : CK_ 111 #[PV c2 s2 x2 f2] (.int .u8 110)) (nn : Nat) (cNN : CK_ 74 #[.int .u8 f] (BV nn)) :
    Calls Tryz.prog 31 #[.int .u8 f, .int .u8 m, BV a, BV b] w fun e w' => e = .returned (.tuple #[BV nn, .int .u8 16, .int .i64 0]) ∧ Below w.heap.size w w' := by
  have H := Own.start w
  have HT := Lib.hid hT
  clear hT
  go_enter Tryz.func31, Tryz.ntmps31
  exact walk1
end Go.Proofs.YtecdpjhifmlahaaGreatDoor
