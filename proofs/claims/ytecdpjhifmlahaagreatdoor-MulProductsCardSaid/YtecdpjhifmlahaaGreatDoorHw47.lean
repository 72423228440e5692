/- Part 47 of what is proved: Pco, Pkj. -/
import Derived.Test.YtecdpjhifmlahaaGreatDoorHw6
import Derived.Test.YtecdpjhifmlahaaGreatDoorHw7
import Derived.Test.YtecdpjhifmlahaaGreatDoorHw36
import Derived.Test.YtecdpjhifmlahaaGreatDoorHw41
import Derived.Test.YtecdpjhifmlahaaGreatDoorHw45
import Derived.Test.YtecdpjhifmlahaaGreatDoorHw46
set_option linter.unusedSimpArgs false
set_option linter.unusedVariables false
set_option linter.unnecessarySimpa false
set_option maxRecDepth 100000
set_option maxHeartbeats 1600000
namespace Go.Proofs.YtecdpjhifmlahaaGreatDoor
open Go.RowKit
theorem roundPack_over2_f (f m s p l E k lk o : Nat) (e top lo : Int) (neg ex : Bool) (w : World) (hT : Tab w) (hp : p ≤ 113) (h1 : -1048576 ≤ e) (h2 : e ≤ 1048576) (hl4 : l ≤ 384) (cP : CK_ 102 #[.int .u8 f] (.int .i64 (p : Nat))) (cR : ∀ w, Calls Tryz.prog 153 #[.int .u8 f, .int .u8 m] w fun e w' => e = .returned (.bool true) ∧ w = w') (cL : CK_ 103 #[W s] (.int .i64 (l : Nat))) (hs : s < top6) (hs0 : decide (s = 0) = false) (htop : (l : Int) - 1 + e = top) (l1 : -20000 ≤ lo) (l2 : lo ≤ 20000) (t1 : -1100000 ≤ top) (t2 : top ≤ 1100000) (hE : E ≤ 16383) (cE : CK_ 154 #[.int .u8 f] (.int .i64 lo)) (cX : CK_ 155 #[.int .u8 f] (.int .i64 (E : Nat))) (hlk : lk ≤ 384) (hov : ¬ (E : Int) < top) (hov2 : (E : Int) < (lk : Int) - 1 + (max top lo - (p : Int) + 1)) (cG : CT_ 157 #[.int .u8 m, RV neg s e false, .int .i64 (max top lo - (p : Int) + 1)] (.tuple #[W k, .bool ex])) (cK : CK_ 103 #[W k] (.int .i64 (lk : Nat))) (cO : CK_ 156 #[.int .u8 f, .int .u8 m, .bool neg] (.tuple #[BV o, .int .u8 5, .int .i64 0]))  :
    Calls Tryz.prog 61 #[.int .u8 f, .int .u8 m, RV neg s e false] w fun e w' => e = .returned (.tuple #[BV o, .int .u8 5, .int .i64 0]) ∧ Below w.heap.size w w' := by
  have H := Own.start w
  have HT := Lib.hid hT
  clear hT
  have he2 : decide (e < -1048576) = false := by simp; omega
  have he3 : decide (1048576 < e) = false := by simp; omega
  have eq1 : ∀ w, (Op.equalIn 10000 63 (.agg (limbs s)) (.agg #[.int .u64 0, .int .u64 0, .int .u64 0, .int .u64 0, .int .u64 0, .int .u64 0])).run Tryz.prog w = .ok false w := fun w => (run_equal_zero w s hs).trans (by rw [hs0])
  have v1 : IntKind.i64.wrap ((l : Int) - 1) = (l : Int) - 1 := IntWalk.i64_in _ (by omega)
  have v2 : IntKind.i64.wrap ((l : Int) - 1 + e) = top := by rw [htop]; exact IntWalk.i64_in _ (by omega)
  clear hs hs0 htop
  have hov3 : decide ((E : Int) < top) = false := by simp; omega
  have hov4 : decide ((E : Int) < (lk : Int) - 1 + (max top lo - (p : Int) + 1)) = true := by simp only [decide_eq_true_eq]; exact hov2
  go_enter Tryz.func61, Tryz.ntmps61
  exact walk1
theorem roundPack_over2_t (f m s p l E k lk o : Nat) (e top lo : Int) (neg ex : Bool) (w : World) (hT : Tab w) (hp : p ≤ 113) (h1 : -1048576 ≤ e) (h2 : e ≤ 1048576) (hl4 : l ≤ 384) (hl : ¬ l < p + 2) (cP : CK_ 102 #[.int .u8 f] (.int .i64 (p : Nat))) (cR : ∀ w, Calls Tryz.prog 153 #[.int .u8 f, .int .u8 m] w fun e w' => e = .returned (.bool true) ∧ w = w') (cL : CK_ 103 #[W s] (.int .i64 (l : Nat))) (hs : s < top6) (hs0 : decide (s = 0) = false) (htop : (l : Int) - 1 + e = top) (l1 : -20000 ≤ lo) (l2 : lo ≤ 20000) (t1 : -1100000 ≤ top) (t2 : top ≤ 1100000) (hE : E ≤ 16383) (cE : CK_ 154 #[.int .u8 f] (.int .i64 lo)) (cX : CK_ 155 #[.int .u8 f] (.int .i64 (E : Nat))) (hlk : lk ≤ 384) (hov : ¬ (E : Int) < top) (hov2 : (E : Int) < (lk : Int) - 1 + (max top lo - (p : Int) + 1)) (cG : CT_ 157 #[.int .u8 m, RV neg s e true, .int .i64 (max top lo - (p : Int) + 1)] (.tuple #[W k, .bool ex])) (cK : CK_ 103 #[W k] (.int .i64 (lk : Nat))) (cO : CK_ 156 #[.int .u8 f, .int .u8 m, .bool neg] (.tuple #[BV o, .int .u8 5, .int .i64 0]))  :
    Calls Tryz.prog 61 #[.int .u8 f, .int .u8 m, RV neg s e true] w fun e w' => e = .returned (.tuple #[BV o, .int .u8 5, .int .i64 0]) ∧ Below w.heap.size w w' := by
  have H := Own.start w
  have HT := Lib.hid hT
  clear hT
  have he2 : decide (e < -1048576) = false := by simp; omega
  have he3 : decide (1048576 < e) = false := by simp; omega
  have hl2 : decide ((l : Int) < (p : Int) + 2) = false := by simp; omega
  have eq1 : ∀ w, (Op.equalIn 10000 63 (.agg (limbs s)) (.agg #[.int .u64 0, .int .u64 0, .int .u64 0, .int .u64 0, .int .u64 0, .int .u64 0])).run Tryz.prog w = .ok false w := fun w => (run_equal_zero w s hs).trans (by rw [hs0])
  have v1 : IntKind.i64.wrap ((l : Int) - 1) = (l : Int) - 1 := IntWalk.i64_in _ (by omega)
  have v2 : IntKind.i64.wrap ((l : Int) - 1 + e) = top := by rw [htop]; exact IntWalk.i64_in _ (by omega)
  clear hs hs0 htop
  have hov3 : decide ((E : Int) < top) = false := by simp; omega
  have hov4 : decide ((E : Int) < (lk : Int) - 1 + (max top lo - (p : Int) + 1)) = true := by simp only [decide_eq_true_eq]; exact hov2
  go_enter Tryz.func61, Tryz.ntmps61
  exact walk1
open Go.RowKit
theorem roundTiny_any (f m s : Nat) (e top : Int) (neg mo : Bool) (w : World) (hT : Tab w) (hf : f < 4) (hm : m < 5) (hs : s < top6) (hs0 : s ≠ 0) (h1 : -1048576 ≤ e) (h2 : e ≤ 1048576) (ht : (lenN s : Int) - 1 + e = top) :
    Calls Tryz.prog 158 #[.int .u8 f, .int .u8 m, RV neg s e mo, .int .i64 top] w fun e' w' => e' = .returned (.bool (tinyB f m neg s e mo top)) ∧ Below w.heap.size w w' := by
  have hK := formK f hf
  have hp := pF_113 f
  have hl := lenN_pos s hs0
  have hl4 : lenN s ≤ 384 := (lenN_le s 384).2 (by rw [show 384 = 64 * 6 from rfl, ← top6.eq_1]; exact hs)
  have cE := fun w => shapeEmin_any f w (by omega)
  have cP := fun w => shapePrecision_any f w (by omega)
  unfold tinyB
  by_cases hq : top = eminI f - 1
  · rw [if_pos hq]
    have hk := gridN_le m s (pF f) neg mo e (top - pF f + 1) (by omega)
    have cG := fun w hT => roundGrid_any m s e (top - pF f + 1) neg mo w hT (by omega) hs (by omega) (by omega) (by omega) (by omega) (by omega)
    have cK := fun w => wideLen_any (gridN m neg s e mo (top - pF f + 1)).1 w (lt_top114 _ _ hp hk)
    exact roundTiny_eq f m s (pF f) _ _ e top (eminI f) _ neg mo _ w hT hp (by omega) (by omega) (by omega) (by omega) (by rw [hq, beq_self_eq_true]) rfl cE cP cG cK
  · rw [if_neg hq]
    exact roundTiny_ne f m s (pF f) e top (eminI f) neg mo w hT hp (by omega) (by omega) (by omega) (by omega) (by rw [beq_eq_false_iff_ne]; exact hq) cE cP
theorem roundPack_any (f m s : Nat) (e : Int) (neg mo : Bool) (w : World) (hT : Tab w) (hf : f < 256) (hm : m < 256) (hs : s < top6) :
    Calls Tryz.prog 61 #[.int .u8 f, .int .u8 m, RV neg s e mo] w fun e' w' => e' = .returned (.tuple #[BV (packN f m neg s e mo).1, .int .u8 ((packN f m neg s e mo).2.1 : Nat), .int .i64 (packN f m neg s e mo).2.2]) ∧ Below w.heap.size w w' := by
  have hp := pF_113 f
  have hl4 : lenN s ≤ 384 := (lenN_le s 384).2 (by rw [show 384 = 64 * 6 from rfl, ← top6.eq_1]; exact hs)
  have cP := fun w => shapePrecision_any f w hf
  have cR := fun w => roundRight_any f m w hf hm
  have cL := fun w => wideLen_any s w hs
  have cZ := fun w => shapeZero_any f neg w hf
  by_cases hr : (decide (f < 4) && decide (m < 5)) = true
  case neg =>
    have hr' : (decide (f < 4) && decide (m < 5)) = false := by cases h : (decide (f < 4) && decide (m < 5)) <;> simp_all
    have hN : packN f m neg s e mo = (0, 0, 2) := by unfold packN packOk; rw [hr']; simp only [Bool.false_and, Bool.false_eq_true, if_false]
    rw [hN]
    rw [hr'] at cR
    exact roundPack_right f m s _ e neg mo w hp cP cR
  rw [hr] at cR
  have hf4 : f < 4 := by simp only [Bool.and_eq_true, decide_eq_true_eq] at hr; exact hr.1
  have hm5 : m < 5 := by simp only [Bool.and_eq_true, decide_eq_true_eq] at hr; exact hr.2
  by_cases he1 : e < -1048576
  · have hN : packN f m neg s e mo = (0, 0, 2) := by unfold packN packOk; rw [decide_eq_false (show ¬ -1048576 ≤ e by omega)]; simp only [Bool.and_false, Bool.false_and, Bool.false_eq_true, if_false]
    rw [hN]
    exact roundPack_low f m s _ e neg mo w hp he1 cP cR
  by_cases he2 : 1048576 < e
  · have hN : packN f m neg s e mo = (0, 0, 2) := by unfold packN packOk; rw [decide_eq_false (show ¬ e ≤ 1048576 by omega)]; simp only [Bool.and_false, Bool.false_and, Bool.false_eq_true, if_false]
    rw [hN]
    exact roundPack_high f m s _ e neg mo w hp he2 cP cR
  by_cases hmo : (mo && decide (lenN s < pF f + 2)) = true
  · have hN : packN f m neg s e mo = (0, 0, 2) := by unfold packN packOk; rw [hmo]; simp only [Bool.not_true, Bool.and_false, Bool.false_eq_true, if_false]
    rw [hN]
    have ht : mo = true := by cases mo <;> simp_all
    subst ht
    exact roundPack_more f m s (pF f) (lenN s) e neg w hp (by omega) (by omega) (by simpa using hmo) hl4 cP cR cL
  have hmo' : (mo && decide (lenN s < pF f + 2)) = false := by cases h : (mo && decide (lenN s < pF f + 2)) <;> simp_all
  have hok : packOk f m s e mo = true := by
    unfold packOk
    rw [hr, hmo', decide_eq_true (show -1048576 ≤ e by omega), decide_eq_true (show e ≤ 1048576 by omega)]; rfl
  have hl : mo = true → ¬ lenN s < pF f + 2 := by intro ht; subst ht; simpa using hmo'
  by_cases hz : s = 0
  · have hN : packN f m neg s e mo = (zeroN f neg, 0, 0) := by unfold packN; rw [if_pos hok, if_pos hz]
    rw [hN]
    cases mo with
    | false => exact roundPack_zero_f f m s (pF f) (lenN s) _ e neg w hT hp (by omega) (by omega) hl4 cP cR cL hs (decide_eq_true hz) cZ
    | true => exact roundPack_zero_t f m s (pF f) (lenN s) _ e neg w hT hp (by omega) (by omega) hl4 (hl rfl) cP cR cL hs (decide_eq_true hz) cZ
  have hN : packN f m neg s e mo = ((packB f m neg s e mo).1, (packB f m neg s e mo).2, 0) := by unfold packN; rw [if_pos hok, if_neg hz]
  rw [hN]
  have hK := formK f hf4
  have hl1 := lenN_pos s hz
  have cE := fun w => shapeEmin_any f w hf
  have cX := fun w => shapeEmax_any f w hf
  have cO := fun w => roundOver_any f m neg w hf4 hm5
  obtain ⟨top, htop⟩ : ∃ top, (lenN s : Int) - 1 + e = top := ⟨_, rfl⟩
  have hz' := decide_eq_false hz
  unfold packB
  rw [htop]
  by_cases hov : (eF f : Int) < top
  · rw [if_pos hov]
    cases mo with
    | false => exact roundPack_over_f f m s (pF f) (lenN s) (eF f) _ e top (eminI f) neg w hT hp (by omega) (by omega) hl4 cP cR cL hs hz' htop (by omega) (by omega) (by omega) (by omega) (by omega) cE cX hov cO
    | true => exact roundPack_over_t f m s (pF f) (lenN s) (eF f) _ e top (eminI f) neg w hT hp (by omega) (by omega) hl4 (hl rfl) cP cR cL hs hz' htop (by omega) (by omega) (by omega) (by omega) (by omega) cE cX hov cO
  rw [if_neg hov]
  have hat : atN f top = max top (eminI f) - (pF f : Int) + 1 := rfl
  have hk := gridN_le m s (pF f) neg mo e (atN f top) (by rw [hat]; omega)
  have cG := fun w hT => roundGrid_any m s e (atN f top) neg mo w hT hm hs (by omega) (by omega) (by rw [hat]; omega) (by rw [hat]; omega) (by rw [hat]; omega)
  have cT := fun w hT => roundTiny_any f m s e top neg mo w hT hf4 hm5 hs hz (by omega) (by omega) htop
  obtain ⟨k, ex, hg⟩ : ∃ k ex, gridN m neg s e mo (atN f top) = (k, ex) := ⟨_, _, rfl⟩
  rw [hg] at cG hk ⊢
  rw [hat] at cG
  have hk' : k ≤ 2 ^ pF f := hk
  have hkt := lt_top114 k _ hp hk'
  have hkl := lenN_le_of k _ hk'
  have cK := fun w => wideLen_any k w hkt
  by_cases hov2 : (eF f : Int) < lenN k - 1 + atN f top
  · rw [if_pos hov2]
    rw [hat] at hov2
    cases mo with
    | false => exact roundPack_over2_f f m s (pF f) (lenN s) (eF f) k (lenN k) _ e top (eminI f) neg ex w hT hp (by omega) (by omega) hl4 cP cR cL hs hz' htop (by omega) (by omega) (by omega) (by omega) (by omega) cE cX (by omega) hov hov2 cG cK cO
    | true => exact roundPack_over2_t f m s (pF f) (lenN s) (eF f) k (lenN k) _ e top (eminI f) neg ex w hT hp (by omega) (by omega) hl4 (hl rfl) cP cR cL hs hz' htop (by omega) (by omega) (by omega) (by omega) (by omega) cE cX (by omega) hov hov2 cG cK cO
  rw [if_neg hov2]
  rw [hat] at hov2
  obtain ⟨d, hd⟩ : ∃ d : Nat, d = (max top (eminI f) - eminI f).toNat := ⟨_, rfl⟩
  have hd1 : max top (eminI f) - (pF f : Int) + 1 - eminI f + (pF f : Int) - 1 = (d : Int) := by omega
  have hd2 : (atN f top - eminI f + pF f - 1).toNat = d := by rw [hat]; omega
  have hen := enc_lt f k d hf4 hk' (by omega)
  have cOf := fun w => wideOf_any d w (by omega)
  rw [← hd1] at cOf
  have cLf := fun w => wideLeft_any d ((pF f : Int) - 1) w (lt_top_bits d (by omega))
  have hcl : clip ((pF f : Int) - 1) = pF f - 1 := by unfold clip; omega
  rw [hcl] at cLf
  have cAd := fun w => wideAdd_any (d * 2 ^ (pF f - 1)) k w
  have hw : 2 ^ (wF f - 1) ≤ 2 ^ (64 * 2) := Nat.pow_le_pow_right (by decide) (by rcases forms f with rfl | rfl | rfl | rfl | h <;> first | decide | omega)
  have cB := fun w => wideToBits_any (d * 2 ^ (pF f - 1) + k) w (Nat.lt_of_lt_of_le hen hw)
  have hzn : zeroN f neg = signN f neg := by unfold zeroN; rw [decide_eq_true hf4, cond_true]
  have hor : (d * 2 ^ (pF f - 1) + k) ||| zeroN f neg = encN f neg k (atN f top) := by
    rw [hzn, or_sign f _ neg hen]; unfold encN; rw [hd2]
  have fin : ∀ fl : Value, Ending.returned (.tuple #[.agg #[.int .u64 (Go.bits .or .u64 (limb (d * 2 ^ (pF f - 1) + k) 1) (limb (zeroN f neg) 1)), .int .u64 (Go.bits .or .u64 (limb (d * 2 ^ (pF f - 1) + k) 0) (limb (zeroN f neg) 0))], fl, .int .i64 0]) = .returned (.tuple #[BV (encN f neg k (atN f top)), fl, .int .i64 0]) := by
    intro fl
    have h := pair_or (d * 2 ^ (pF f - 1) + k) (zeroN f neg)
    rw [hor] at h
    injection h with h
    rw [h]
  cases ex with
  | true =>
    simp only [cond_true]
    cases mo with
    | false =>
      refine (roundPack_x_f f m s (pF f) (lenN s) (eF f) k (lenN k) _ d _ _ _ e top (eminI f) neg _ _ _ w hT hp (by omega) (by omega) hl4 cP cR cL hs hz' htop (by omega) (by omega) (by omega) (by omega) (by omega) cE cX (by omega) hov hov2 cG cK cOf cLf cAd cB cZ).mono ?_
      intro e' w' ⟨he, hb⟩
      exact ⟨he.trans (fin _), hb⟩
    | true =>
      refine (roundPack_x_t f m s (pF f) (lenN s) (eF f) k (lenN k) _ d _ _ _ e top (eminI f) neg _ _ _ w hT hp (by omega) (by omega) hl4 (hl rfl) cP cR cL hs hz' htop (by omega) (by omega) (by omega) (by omega) (by omega) cE cX (by omega) hov hov2 cG cK cOf cLf cAd cB cZ).mono ?_
      intro e' w' ⟨he, hb⟩
      exact ⟨he.trans (fin _), hb⟩
  | false =>
    simp only [cond_false]
    cases hty : tinyB f m neg s e mo top with
    | false =>
      rw [hty] at cT
      simp only [cond_false]
      cases mo with
      | false =>
        refine (roundPack_i_f f m s (pF f) (lenN s) (eF f) k (lenN k) _ d _ _ _ e top (eminI f) neg _ _ _ w hT hp (by omega) (by omega) hl4 cP cR cL hs hz' htop (by omega) (by omega) (by omega) (by omega) (by omega) cE cX (by omega) hov hov2 cG cK cOf cLf cAd cB cZ cT).mono ?_
        intro e' w' ⟨he, hb⟩
        exact ⟨he.trans (fin _), hb⟩
      | true =>
        refine (roundPack_i_t f m s (pF f) (lenN s) (eF f) k (lenN k) _ d _ _ _ e top (eminI f) neg _ _ _ w hT hp (by omega) (by omega) hl4 (hl rfl) cP cR cL hs hz' htop (by omega) (by omega) (by omega) (by omega) (by omega) cE cX (by omega) hov hov2 cG cK cOf cLf cAd cB cZ cT).mono ?_
        intro e' w' ⟨he, hb⟩
        exact ⟨he.trans (fin _), hb⟩
    | true =>
      rw [hty] at cT
      simp only [cond_true]
      cases mo with
      | false =>
        refine (roundPack_u_f f m s (pF f) (lenN s) (eF f) k (lenN k) _ d _ _ _ e top (eminI f) neg _ _ _ w hT hp (by omega) (by omega) hl4 cP cR cL hs hz' htop (by omega) (by omega) (by omega) (by omega) (by omega) cE cX (by omega) hov hov2 cG cK cOf cLf cAd cB cZ cT).mono ?_
        intro e' w' ⟨he, hb⟩
        exact ⟨he.trans (fin _), hb⟩
      | true =>
        refine (roundPack_u_t f m s (pF f) (lenN s) (eF f) k (lenN k) _ d _ _ _ e top (eminI f) neg _ _ _ w hT hp (by omega) (by omega) hl4 (hl rfl) cP cR cL hs hz' htop (by omega) (by omega) (by omega) (by omega) (by omega) cE cX (by omega) hov hov2 cG cK cOf cLf cAd cB cZ cT).mono ?_
        intro e' w' ⟨he, hb⟩
        exact ⟨he.trans (fin _), hb⟩
end Go.Proofs.YtecdpjhifmlahaaGreatDoor
