/- Part 35 of what is proved: Pco, Pkj, Lp, Lm, Lq, Wsub, Wcmp, Qdv, Qsq, Sq0, Sq1, Sqj, Rst, Lqs, Dor. -/
import Derived.Deep.RegionWith
import Derived.Deep.RegionHeld3
import Derived.Deep.QuietTactic
import Derived.BigQuiet
import Derived.StillTailTactics
import Derived.Outline
import Derived.Test.YtecdpjhifmlahaaGreatDoorRows
import Derived.Test.YtecdpjhifmlahaaGreatDoorTie
import Derived.Test.YtecdpjhifmlahaaGreatDoorCards
import Derived.WalkKit
import Derived.ProofKit
import Derived.LaidMore
import Derived.OpenShut
import Derived.Stop.Joined
import Derived.SevenTiedAt
import Derived.Lib.SmallJoins
import Derived.ChangeOld
import Derived.Below
import Derived.Carry
import Derived.Test.YtecdpjhifmlahaaGreatDoorHx1
import Derived.Test.YtecdpjhifmlahaaGreatDoorHx2
import Derived.Test.YtecdpjhifmlahaaGreatDoorHx3
import Derived.Test.YtecdpjhifmlahaaGreatDoorHx4
import Derived.Test.YtecdpjhifmlahaaGreatDoorHx5
import Derived.Test.YtecdpjhifmlahaaGreatDoorHx6
import Derived.Test.YtecdpjhifmlahaaGreatDoorHx27
import Derived.Test.YtecdpjhifmlahaaGreatDoorHx32
import Derived.Test.YtecdpjhifmlahaaGreatDoorHx33
import Derived.Test.YtecdpjhifmlahaaGreatDoorHx34
set_option linter.unusedSimpArgs false
set_option linter.unusedVariables false
set_option linter.unnecessarySimpa false
set_option maxRecDepth 100000
set_option maxHeartbeats 1600000
namespace Go.Proofs.YtecdpjhifmlahaaGreatDoor
open Go.RowKit
theorem roundPack_over2_f (f m s p l E k lk o : Nat) (e top lo : Int) (neg ex : Bool) (w : World) (hT : Tab w) (hp : p ≤ 113) (h1 : -1048576 ≤ e) (h2 : e ≤ 1048576) (hl4 : l ≤ 384) (cP : CK_ 102 #[.int .u8 f] (.int .i64 (p : Nat))) (cR : ∀ w, Calls Tryz.prog 153 #[.int .u8 f, .int .u8 m] w fun e w' => e = .returned (.bool true) ∧ w = w') (cL : CK_ 103 #[W s] (.int .i64 (l : Nat))) (hs : s < top6) (hs0 : decide (s = 0) = false) (htop : (l : Int) - 1 + e = top) (l1 : -20000 ≤ lo) (l2 : lo ≤ 20000) (t1 : -1100000 ≤ top) (t2 : top ≤ 1100000) (hE : E ≤ 16383) (cE : CK_ 154 #[.int .u8 f] (.int .i64 lo)) (cX : CK_ 155 #[.int .u8 f] (.int .i64 (E : Nat))) (hlk : lk ≤ 384) (hov : ¬ (E : Int) < top) (hov2 : (E : Int) < (lk : Int) - 1 + (max top lo - (p : Int) + 1)) (cG : CT_ 157 #[.int .u8 m, RV neg s e false, .int .i64 (max top lo - (p : Int) + 1)] (.tuple #[W k, .bool ex])) (cK : CK_ 103 #[W k] (.int .i64 (lk : Nat))) (cO : CK_ 156 #[.int .u8 f, .int .u8 m, .bool neg] (.tuple #[BV o, .int .u8 5, .int .i64 0]))  :
    Calls Tryz.prog 61 #[.int .u8 f, .int .u8 m, RV neg s e false] w fun e w' => e = .returned (.tuple #[BV o, .int .u8 5, .int .i64 0]) ∧ Below w.heap.size w w' := by
  have H := Own.start w
  have HT := Lib.hid hT
  clear hT
  have he2 : decide (e < -1048576) = false := by simp; omega
  have he3 : decide (1048576 < e) = false := by simp; omega
  have eq1 : ∀ w, (Op.equalIn 10000 63 (.agg (limbs s)) (.agg #[.int .u64 0, .int .u64 0, .int .u64 0, .int .u64 0, .int .u64 0, .int .u64 0])).run Tryz.prog w = .ok false w := fun w => (run_equal_zero w s hs).trans (by rw [hs0])
  have v1 : IntKind.i64.wrap ((l : Int) - 1) = (l : Int) - 1 := IntWalk.i64_in _ (by omega)
  have v2 : IntKind.i64.wrap ((l : Int) - 1 + e) = top := by rw [htop]; exact IntWalk.i64_in _ (by omega)
  clear hs hs0 htop
  have hov3 : decide ((E : Int) < top) = false := by simp; omega
  have hov4 : decide ((E : Int) < (lk : Int) - 1 + (max top lo - (p : Int) + 1)) = true := by simp only [decide_eq_true_eq]; exact hov2
  go_enter Tryz.func61, Tryz.ntmps61
  exact walk1
theorem roundPack_over2_t (f m s p l E k lk o : Nat) (e top lo : Int) (neg ex : Bool) (w : World) (hT : Tab w) (hp : p ≤ 113) (h1 : -1048576 ≤ e) (h2 : e ≤ 1048576) (hl4 : l ≤ 384) (hl : ¬ l < p + 2) (cP : CK_ 102 #[.int .u8 f] (.int .i64 (p : Nat))) (cR : ∀ w, Calls Tryz.prog 153 #[.int .u8 f, .int .u8 m] w fun e w' => e = .returned (.bool true) ∧ w = w') (cL : CK_ 103 #[W s] (.int .i64 (l : Nat))) (hs : s < top6) (hs0 : decide (s = 0) = false) (htop : (l : Int) - 1 + e = top) (l1 : -20000 ≤ lo) (l2 : lo ≤ 20000) (t1 : -1100000 ≤ top) (t2 : top ≤ 1100000) (hE : E ≤ 16383) (cE : CK_ 154 #[.int .u8 f] (.int .i64 lo)) (cX : CK_ 155 #[.int .u8 f] (.int .i64 (E : Nat))) (hlk : lk ≤ 384) (hov : ¬ (E : Int) < top) (hov2 : (E : Int) < (lk : Int) - 1 + (max top lo - (p : Int) + 1)) (cG : CT_ 157 #[.int .u8 m, RV neg s e true, .int .i64 (max top lo - (p : Int) + 1)] (.tuple #[W k, .bool ex])) (cK : CK_ 103 #[W k] (.int .i64 (lk : Nat))) (cO : CK_ 156 #[.int .u8 f, .int .u8 m, .bool neg] (.tuple #[BV o, .int .u8 5, .int .i64 0]))  :
    Calls Tryz.prog 61 #[.int .u8 f, .int .u8 m, RV neg s e true] w fun e w' => e = .returned (.tuple #[BV o, .int .u8 5, .int .i64 0]) ∧ Below w.heap.size w w' := by
  have H := Own.start w
  have HT := Lib.hid hT
  clear hT
  have he2 : decide (e < -1048576) = false := by simp; omega
  have he3 : decide (1048576 < e) = false := by simp; omega
  have hl2 : decide ((l : Int) < (p : Int) + 2) = false := by simp; omega
  have eq1 : ∀ w, (Op.equalIn 10000 63 (.agg (limbs s)) (.agg #[.int .u64 0, .int .u64 0, .int .u64 0, .int .u64 0, .int .u64 0, .int .u64 0])).run Tryz.prog w = .ok false w := fun w => (run_equal_zero w s hs).trans (by rw [hs0])
  have v1 : IntKind.i64.wrap ((l : Int) - 1) = (l : Int) - 1 := IntWalk.i64_in _ (by omega)
  have v2 : IntKind.i64.wrap ((l : Int) - 1 + e) = top := by rw [htop]; exact IntWalk.i64_in _ (by omega)
  clear hs hs0 htop
  have hov3 : decide ((E : Int) < top) = false := by simp; omega
  have hov4 : decide ((E : Int) < (lk : Int) - 1 + (max top lo - (p : Int) + 1)) = true := by simp only [decide_eq_true_eq]; exact hov2
  go_enter Tryz.func61, Tryz.ntmps61
  exact walk1
open Go.RowKit
theorem roundTiny_any (f m s : Nat) (e top : Int) (neg mo : Bool) (w : World) (hT : Tab w) (hf : f < 4) (hm : m < 5) (hs : s < top6) (hs0 : s ≠ 0) (h1 : -1048576 ≤ e) (h2 : e ≤ 1048576) (ht : (lenN s : Int) - 1 + e = top) :
    Calls Tryz.prog 158 #[.int .u8 f, .int .u8 m, RV neg s e mo, .int .i64 top] w fun e' w' => e' = .returned (.bool (tinyB f m neg s e mo top)) ∧ Below w.heap.size w w' := by
  have hK := formK f hf
  have hp := pF_113 f
  have hl := lenN_pos s hs0
  have hl4 : lenN s ≤ 384 := (lenN_le s 384).2 (by rw [show 384 = 64 * 6 from rfl, ← top6.eq_1]; exact hs)
  have cE := fun w => shapeEmin_any f w (by omega)
  have cP := fun w => shapePrecision_any f w (by omega)
  unfold tinyB
  by_cases hq : top = eminI f - 1
  · rw [if_pos hq]
    have hk := gridN_le m s (pF f) neg mo e (top - pF f + 1) (by omega)
    have cG := fun w hT => roundGrid_any m s e (top - pF f + 1) neg mo w hT (by omega) hs (by omega) (by omega) (by omega) (by omega) (by omega)
    have cK := fun w => wideLen_any (gridN m neg s e mo (top - pF f + 1)).1 w (lt_top114 _ _ hp hk)
    exact roundTiny_eq f m s (pF f) _ _ e top (eminI f) _ neg mo _ w hT hp (by omega) (by omega) (by omega) (by omega) (by rw [hq, beq_self_eq_true]) rfl cE cP cG cK
  · rw [if_neg hq]
    exact roundTiny_ne f m s (pF f) e top (eminI f) neg mo w hT hp (by omega) (by omega) (by omega) (by omega) (by rw [beq_eq_false_iff_ne]; exact hq) cE cP
theorem roundPack_any (f m s : Nat) (e : Int) (neg mo : Bool) (w : World) (hT : Tab w) (hf : f < 256) (hm : m < 256) (hs : s < top6) :
    Calls Tryz.prog 61 #[.int .u8 f, .int .u8 m, RV neg s e mo] w fun e' w' => e' = .returned (.tuple #[BV (packN f m neg s e mo).1, .int .u8 ((packN f m neg s e mo).2.1 : Nat), .int .i64 (packN f m neg s e mo).2.2]) ∧ Below w.heap.size w w' := by
  have hp := pF_113 f
  have hl4 : lenN s ≤ 384 := (lenN_le s 384).2 (by rw [show 384 = 64 * 6 from rfl, ← top6.eq_1]; exact hs)
  have cP := fun w => shapePrecision_any f w hf
  have cR := fun w => roundRight_any f m w hf hm
  have cL := fun w => wideLen_any s w hs
  have cZ := fun w => shapeZero_any f neg w hf
  by_cases hr : (decide (f < 4) && decide (m < 5)) = true
  case neg =>
    have hr' : (decide (f < 4) && decide (m < 5)) = false := by cases h : (decide (f < 4) && decide (m < 5)) <;> simp_all
    have hN : packN f m neg s e mo = (0, 0, 2) := by unfold packN packOk; rw [hr']; simp only [Bool.false_and, Bool.false_eq_true, if_false]
    rw [hN]
    rw [hr'] at cR
    exact roundPack_right f m s _ e neg mo w hp cP cR
  rw [hr] at cR
  have hf4 : f < 4 := by simp only [Bool.and_eq_true, decide_eq_true_eq] at hr; exact hr.1
  have hm5 : m < 5 := by simp only [Bool.and_eq_true, decide_eq_true_eq] at hr; exact hr.2
  by_cases he1 : e < -1048576
  · have hN : packN f m neg s e mo = (0, 0, 2) := by unfold packN packOk; rw [decide_eq_false (show ¬ -1048576 ≤ e by omega)]; simp only [Bool.and_false, Bool.false_and, Bool.false_eq_true, if_false]
    rw [hN]
    exact roundPack_low f m s _ e neg mo w hp he1 cP cR
  by_cases he2 : 1048576 < e
  · have hN : packN f m neg s e mo = (0, 0, 2) := by unfold packN packOk; rw [decide_eq_false (show ¬ e ≤ 1048576 by omega)]; simp only [Bool.and_false, Bool.false_and, Bool.false_eq_true, if_false]
    rw [hN]
    exact roundPack_high f m s _ e neg mo w hp he2 cP cR
  by_cases hmo : (mo && decide (lenN s < pF f + 2)) = true
  · have hN : packN f m neg s e mo = (0, 0, 2) := by unfold packN packOk; rw [hmo]; simp only [Bool.not_true, Bool.and_false, Bool.false_eq_true, if_false]
    rw [hN]
    have ht : mo = true := by cases mo <;> simp_all
    subst ht
    exact roundPack_more f m s (pF f) (lenN s) e neg w hp (by omega) (by omega) (by simpa using hmo) hl4 cP cR cL
  have hmo' : (mo && decide (lenN s < pF f + 2)) = false := by cases h : (mo && decide (lenN s < pF f + 2)) <;> simp_all
  have hok : packOk f m s e mo = true := by
    unfold packOk
    rw [hr, hmo', decide_eq_true (show -1048576 ≤ e by omega), decide_eq_true (show e ≤ 1048576 by omega)]; rfl
  have hl : mo = true → ¬ lenN s < pF f + 2 := by intro ht; subst ht; simpa using hmo'
  by_cases hz : s = 0
  · have hN : packN f m neg s e mo = (zeroN f neg, 0, 0) := by unfold packN; rw [if_pos hok, if_pos hz]
    rw [hN]
    cases mo with
    | false => exact roundPack_zero_f f m s (pF f) (lenN s) _ e neg w hT hp (by omega) (by omega) hl4 cP cR cL hs (decide_eq_true hz) cZ
    | true => exact roundPack_zero_t f m s (pF f) (lenN s) _ e neg w hT hp (by omega) (by omega) hl4 (hl rfl) cP cR cL hs (decide_eq_true hz) cZ
  have hN : packN f m neg s e mo = ((packB f m neg s e mo).1, (packB f m neg s e mo).2, 0) := by unfold packN; rw [if_pos hok, if_neg hz]
  rw [hN]
  have hK := formK f hf4
  have hl1 := lenN_pos s hz
  have cE := fun w => shapeEmin_any f w hf
  have cX := fun w => shapeEmax_any f w hf
  have cO := fun w => roundOver_any f m neg w hf4 hm5
  obtain ⟨top, htop⟩ : ∃ top, (lenN s : Int) - 1 + e = top := ⟨_, rfl⟩
  have hz' := decide_eq_false hz
  unfold packB
  rw [htop]
  by_cases hov : (eF f : Int) < top
  · rw [if_pos hov]
    cases mo with
    | false => exact roundPack_over_f f m s (pF f) (lenN s) (eF f) _ e top (eminI f) neg w hT hp (by omega) (by omega) hl4 cP cR cL hs hz' htop (by omega) (by omega) (by omega) (by omega) (by omega) cE cX hov cO
    | true => exact roundPack_over_t f m s (pF f) (lenN s) (eF f) _ e top (eminI f) neg w hT hp (by omega) (by omega) hl4 (hl rfl) cP cR cL hs hz' htop (by omega) (by omega) (by omega) (by omega) (by omega) cE cX hov cO
  rw [if_neg hov]
  have hat : atN f top = max top (eminI f) - (pF f : Int) + 1 := rfl
  have hk := gridN_le m s (pF f) neg mo e (atN f top) (by rw [hat]; omega)
  have cG := fun w hT => roundGrid_any m s e (atN f top) neg mo w hT hm hs (by omega) (by omega) (by rw [hat]; omega) (by rw [hat]; omega) (by rw [hat]; omega)
  have cT := fun w hT => roundTiny_any f m s e top neg mo w hT hf4 hm5 hs hz (by omega) (by omega) htop
  obtain ⟨k, ex, hg⟩ : ∃ k ex, gridN m neg s e mo (atN f top) = (k, ex) := ⟨_, _, rfl⟩
  rw [hg] at cG hk ⊢
  rw [hat] at cG
  have hk' : k ≤ 2 ^ pF f := hk
  have hkt := lt_top114 k _ hp hk'
  have hkl := lenN_le_of k _ hk'
  have cK := fun w => wideLen_any k w hkt
  by_cases hov2 : (eF f : Int) < lenN k - 1 + atN f top
  · rw [if_pos hov2]
    rw [hat] at hov2
    cases mo with
    | false => exact roundPack_over2_f f m s (pF f) (lenN s) (eF f) k (lenN k) _ e top (eminI f) neg ex w hT hp (by omega) (by omega) hl4 cP cR cL hs hz' htop (by omega) (by omega) (by omega) (by omega) (by omega) cE cX (by omega) hov hov2 cG cK cO
    | true => exact roundPack_over2_t f m s (pF f) (lenN s) (eF f) k (lenN k) _ e top (eminI f) neg ex w hT hp (by omega) (by omega) hl4 (hl rfl) cP cR cL hs hz' htop (by omega) (by omega) (by omega) (by omega) (by omega) cE cX (by omega) hov hov2 cG cK cO
  rw [if_neg hov2]
  rw [hat] at hov2
  obtain ⟨d, hd⟩ : ∃ d : Nat, d = (max top (eminI f) - eminI f).toNat := ⟨_, rfl⟩
  have hd1 : max top (eminI f) - (pF f : Int) + 1 - eminI f + (pF f : Int) - 1 = (d : Int) := by omega
  have hd2 : (atN f top - eminI f + pF f - 1).toNat = d := by rw [hat]; omega
  have hen := enc_lt f k d hf4 hk' (by omega)
  have cOf := fun w => wideOf_any d w (by omega)
  rw [← hd1] at cOf
  have cLf := fun w => wideLeft_any d ((pF f : Int) - 1) w (lt_top_bits d (by omega))
  have hcl : clip ((pF f : Int) - 1) = pF f - 1 := by unfold clip; omega
  rw [hcl] at cLf
  have cAd := fun w => wideAdd_any (d * 2 ^ (pF f - 1)) k w
  have hw : 2 ^ (wF f - 1) ≤ 2 ^ (64 * 2) := Nat.pow_le_pow_right (by decide) (by rcases forms f with rfl | rfl | rfl | rfl | h <;> first | decide | omega)
  have cB := fun w => wideToBits_any (d * 2 ^ (pF f - 1) + k) w (Nat.lt_of_lt_of_le hen hw)
  have hzn : zeroN f neg = signN f neg := by unfold zeroN; rw [decide_eq_true hf4, cond_true]
  have hor : (d * 2 ^ (pF f - 1) + k) ||| zeroN f neg = encN f neg k (atN f top) := by
    rw [hzn, or_sign f _ neg hen]; unfold encN; rw [hd2]
  have fin : ∀ fl : Value, Ending.returned (.tuple #[.agg #[.int .u64 (Go.bits .or .u64 (limb (d * 2 ^ (pF f - 1) + k) 1) (limb (zeroN f neg) 1)), .int .u64 (Go.bits .or .u64 (limb (d * 2 ^ (pF f - 1) + k) 0) (limb (zeroN f neg) 0))], fl, .int .i64 0]) = .returned (.tuple #[BV (encN f neg k (atN f top)), fl, .int .i64 0]) := by
    intro fl
    have h := pair_or (d * 2 ^ (pF f - 1) + k) (zeroN f neg)
    rw [hor] at h
    injection h with h
    rw [h]
  cases ex with
  | true =>
    simp only [cond_true]
    cases mo with
    | false =>
      refine (roundPack_x_f f m s (pF f) (lenN s) (eF f) k (lenN k) _ d _ _ _ e top (eminI f) neg _ _ _ w hT hp (by omega) (by omega) hl4 cP cR cL hs hz' htop (by omega) (by omega) (by omega) (by omega) (by omega) cE cX (by omega) hov hov2 cG cK cOf cLf cAd cB cZ).mono ?_
      intro e' w' ⟨he, hb⟩
      exact ⟨he.trans (fin _), hb⟩
    | true =>
      refine (roundPack_x_t f m s (pF f) (lenN s) (eF f) k (lenN k) _ d _ _ _ e top (eminI f) neg _ _ _ w hT hp (by omega) (by omega) hl4 (hl rfl) cP cR cL hs hz' htop (by omega) (by omega) (by omega) (by omega) (by omega) cE cX (by omega) hov hov2 cG cK cOf cLf cAd cB cZ).mono ?_
      intro e' w' ⟨he, hb⟩
      exact ⟨he.trans (fin _), hb⟩
  | false =>
    simp only [cond_false]
    cases hty : tinyB f m neg s e mo top with
    | false =>
      rw [hty] at cT
      simp only [cond_false]
      cases mo with
      | false =>
        refine (roundPack_i_f f m s (pF f) (lenN s) (eF f) k (lenN k) _ d _ _ _ e top (eminI f) neg _ _ _ w hT hp (by omega) (by omega) hl4 cP cR cL hs hz' htop (by omega) (by omega) (by omega) (by omega) (by omega) cE cX (by omega) hov hov2 cG cK cOf cLf cAd cB cZ cT).mono ?_
        intro e' w' ⟨he, hb⟩
        exact ⟨he.trans (fin _), hb⟩
      | true =>
        refine (roundPack_i_t f m s (pF f) (lenN s) (eF f) k (lenN k) _ d _ _ _ e top (eminI f) neg _ _ _ w hT hp (by omega) (by omega) hl4 (hl rfl) cP cR cL hs hz' htop (by omega) (by omega) (by omega) (by omega) (by omega) cE cX (by omega) hov hov2 cG cK cOf cLf cAd cB cZ cT).mono ?_
        intro e' w' ⟨he, hb⟩
        exact ⟨he.trans (fin _), hb⟩
    | true =>
      rw [hty] at cT
      simp only [cond_true]
      cases mo with
      | false =>
        refine (roundPack_u_f f m s (pF f) (lenN s) (eF f) k (lenN k) _ d _ _ _ e top (eminI f) neg _ _ _ w hT hp (by omega) (by omega) hl4 cP cR cL hs hz' htop (by omega) (by omega) (by omega) (by omega) (by omega) cE cX (by omega) hov hov2 cG cK cOf cLf cAd cB cZ cT).mono ?_
        intro e' w' ⟨he, hb⟩
        exact ⟨he.trans (fin _), hb⟩
      | true =>
        refine (roundPack_u_t f m s (pF f) (lenN s) (eF f) k (lenN k) _ d _ _ _ e top (eminI f) neg _ _ _ w hT hp (by omega) (by omega) hl4 (hl rfl) cP cR cL hs hz' htop (by omega) (by omega) (by omega) (by omega) (by omega) cE cX (by omega) hov hov2 cG cK cOf cLf cAd cB cZ cT).mono ?_
        intro e' w' ⟨he, hb⟩
        exact ⟨he.trans (fin _), hb⟩
theorem quart_bit (a i : Nat) : a / 2 ^ i = 4 * (a / 2 ^ (i + 2)) + a / 2 ^ i % 4 := by
  rw [Nat.pow_add, ← Nat.div_div_eq_div_mul, show 2 ^ 2 = 4 from rfl]; omega
open Go.RowKit
theorem limbN_pow (i j : Nat) : limbN (2 ^ i) j = if j = i / 64 then 2 ^ (i % 64) else 0 := by
  have h64 : 2 ^ (i % 64) < 18446744073709551616 := by rw [B64]; exact Nat.pow_lt_pow_right (by decide) (Nat.mod_lt _ (by decide))
  have hp : 2 ^ i = 0 + 2 ^ (i % 64) * 2 ^ (64 * (i / 64)) := by
    rw [Nat.zero_add, ← Nat.pow_add]; congr 1; omega
  have := limbN_put 0 (2 ^ (i % 64)) (i / 64) j (pw_pos _) h64
  rw [← hp] at this
  rw [this]
  have h0 : limbN 0 j = 0 := by unfold limbN; rw [Nat.zero_div]
  rw [h0]
theorem limbs_or_bit (q i : Nat) (hi : i < 384) : (limbs q).setIfInBounds (i / 64) (.int .u64 (Go.bits .or .u64 (limb q (i / 64)) ((2 ^ (i % 64) : Nat) : Int))) = limbs (q ||| 2 ^ i) := by
  have key : ∀ j, limb (q ||| 2 ^ i) j = if j = i / 64 then Go.bits .or .u64 (limb q (i / 64)) ((2 ^ (i % 64) : Nat) : Int) else limb q j := by
    intro j
    rw [← limb_or]
    unfold limb
    rw [limbN_pow i j]
    split
    · rename_i h; rw [h]
    · rw [u64_or_nat _ _ (limbN_lt q j) (by decide), Nat.or_zero]
  apply Array.ext_getElem?
  intro j
  by_cases hj : j < 6
  · rw [limbs_get _ j hj, Array.getElem?_setIfInBounds, key j]
    by_cases h : i / 64 = j
    · rw [if_pos h, if_pos (by rw [limbs_size]; omega), if_pos h.symm]
    · rw [if_neg h, if_neg (fun e => h e.symm)]; exact limbs_get q j hj
  · rw [Array.getElem?_eq_none (by rw [Array.size_setIfInBounds, limbs_size]; omega), Array.getElem?_eq_none (by rw [limbs_size]; omega)]
theorem limbs_or1 (x : Nat) : (limbs x).setIfInBounds 0 (.int .u64 (Go.bits .or .u64 (limb x 0) 1)) = limbs (x ||| 1) := limbs_or_bit x 0 (by decide)
theorem set_or1 (x : Nat) : setRow (limbs x) 0 (#[.int .u64 (Go.bits .or .u64 (limb x 0) 1)] : Array Value).toList = limbs (x ||| 1) := limbs_or1 x
theorem pw_mono0 (j i : Nat) (h : j ≤ i) : 2 ^ (64 * j) ≤ 2 ^ (64 * i) := Nat.pow_le_pow_right (by decide) (Nat.mul_le_mul_left 64 h)
theorem sq2 (r : Nat) : (2 * r) * (2 * r) = 4 * (r * r) := by rw [Nat.mul_mul_mul_comm]
theorem sq21 (r : Nat) : (2 * r + 1) * (2 * r + 1) = 4 * (r * r) + 4 * r + 1 := by
  rw [Nat.mul_add, Nat.add_mul, sq2]; omega
theorem sq1 (r : Nat) : (r + 1) * (r + 1) = r * r + 2 * r + 1 := by rw [Nat.mul_add, Nat.add_mul]; omega
theorem sqrt_round (a i : Nat) (rest : Nat) (hr : rest = a / 2 ^ (i + 2) - isq (a / 2 ^ (i + 2)) * isq (a / 2 ^ (i + 2))) :
    (4 * rest + a / 2 ^ i % 4 < 4 * isq (a / 2 ^ (i + 2)) + 1 → isq (a / 2 ^ i) = 2 * isq (a / 2 ^ (i + 2)) ∧ a / 2 ^ i - isq (a / 2 ^ i) * isq (a / 2 ^ i) = 4 * rest + a / 2 ^ i % 4) ∧
    (4 * isq (a / 2 ^ (i + 2)) + 1 ≤ 4 * rest + a / 2 ^ i % 4 → isq (a / 2 ^ i) = 2 * isq (a / 2 ^ (i + 2)) + 1 ∧ a / 2 ^ i - isq (a / 2 ^ i) * isq (a / 2 ^ i) = 4 * rest + a / 2 ^ i % 4 - (4 * isq (a / 2 ^ (i + 2)) + 1)) := by
  have hd : a / 2 ^ i % 4 < 4 := Nat.mod_lt _ (by decide)
  have hs := quart_bit a i
  generalize a / 2 ^ i % 4 = d at *
  rw [hs]
  generalize a / 2 ^ (i + 2) = A at *
  have h1 := isq_le A
  have h2 := isq_gt A
  rw [sq1] at h2
  generalize isq A = r at *
  constructor
  · intro h
    have e : isq (4 * A + d) = 2 * r := isq_unique _ _ (by rw [sq2]; omega) (by rw [sq21]; omega)
    rw [e, sq2]; exact ⟨rfl, by omega⟩
  · intro h
    have e : isq (4 * A + d) = 2 * r + 1 := isq_unique _ _ (by rw [sq21]; omega) (by rw [sq1, sq21]; omega)
    rw [e, sq21]; exact ⟨rfl, by omega⟩
theorem isq_rest (A : Nat) : A - isq A * isq A ≤ 2 * isq A := by
  have h2 := isq_gt A
  rw [sq1] at h2; omega
theorem isq_zero : isq 0 = 0 := rfl
theorem isq_lt (A k : Nat) (h : A < 2 ^ (k + k)) : isq A < 2 ^ k := by
  rcases Nat.lt_or_ge (isq A) (2 ^ k) with hl | hl
  · exact hl
  · have h1 := isq_le A
    have h2 := Nat.mul_le_mul hl hl
    rw [← Nat.pow_add] at h2; omega
open Go.RowKit
theorem subW_nat (x y d : Nat) (c : Bool) (hx : x < 18446744073709551616) (hy : y < 18446744073709551616) (hd : d < 18446744073709551616) (h : (d + y + c.toNat) % 18446744073709551616 = x) : subW (x : Int) (y : Int) c = (d : Int) := by
  unfold subW; cases c <;> simp at h ⊢ <;> omega
theorem borW_nat (x y d : Nat) (c : Bool) (hx : x < 18446744073709551616) (hy : y < 18446744073709551616) (hd : d < 18446744073709551616) (h : (d + y + c.toNat) % 18446744073709551616 = x) : borW (x : Int) (y : Int) c = decide (18446744073709551616 ≤ d + y + c.toNat) := by
  unfold borW; rw [Bool.eq_iff_iff, decide_eq_true_iff, decide_eq_true_iff]; cases c <;> simp at h ⊢ <;> omega
def subN (a b : Nat) : Nat := a + top6 - b
theorem limbN_top (a i : Nat) (h : i < 6) : limbN (a + top6) i = limbN a i := by
  have e : top6 = 2 ^ (64 * i) * (18446744073709551616 * 2 ^ (64 * (5 - i))) := by
    unfold top6
    rw [show 64 * 6 = 64 * i + (64 + 64 * (5 - i)) by omega, Nat.pow_add, Nat.pow_add]
  unfold limbN
  rw [e, Nat.add_mul_div_left _ _ (pw_pos i), Nat.add_mul_mod_self_left]
theorem sub_word (a b k : Nat) (hb : b < top6) (hk : k < 6) : (limbN (subN a b) k + limbN b k + (cbit (subN a b) b k).toNat) % 18446744073709551616 = limbN a k := by
  have h1 := sum_step (subN a b) b k
  rw [mod_low] at h1
  have e : subN a b + b = a + top6 := by unfold subN; omega
  have h2 : limbN (subN a b + b) k = limbN a k := by rw [e, limbN_top a k hk]
  rw [← h2]
  have h3 : limbN (subN a b + b) k * 2 ^ (64 * k) = (limbN (subN a b) k + limbN b k + (cbit (subN a b) b k).toNat) % 18446744073709551616 * 2 ^ (64 * k) := by omega
  exact (Nat.eq_of_mul_eq_mul_right (pw_pos k) h3).symm
theorem limbs_sub (a b : Nat) (h : b ≤ a) : limbs (subN a b) = limbs (a - b) := by
  apply limbs_eq
  intro i hi
  rw [← limbN_top (a - b) i hi]
  unfold subN
  rw [show a + top6 - b = a - b + top6 by omega]
theorem sub_limb (a b k : Nat) (cb : Bool) (hb : b < top6) (hk : k < 6) (h : cbit (subN a b) b k = cb) : subW (limb a k) (limb b k) cb = limb (subN a b) k := by
  unfold limb
  exact subW_nat _ _ _ _ (limbN_lt a k) (limbN_lt b k) (limbN_lt _ k) (by rw [← h]; exact sub_word a b k hb hk)
theorem sub_borrow (a b k : Nat) (cb : Bool) (hb : b < top6) (hk : k < 6) (h : cbit (subN a b) b k = cb) : cbit (subN a b) b (k + 1) = borW (limb a k) (limb b k) cb := by
  unfold limb
  rw [borW_nat _ _ _ _ (limbN_lt a k) (limbN_lt b k) (limbN_lt _ k) (by rw [← h]; exact sub_word a b k hb hk), cbit_step, h]
theorem wideSub_any (a b : Nat) (w : World) (hbt : b < top6) :
    Calls Tryz.prog 122 #[W a, W b] w fun e w' => e = .returned (.tuple #[W (subN a b), .bool (cbit (subN a b) b 6)]) ∧ Below w.heap.size w w' := by
  have HT := Lib.hid hbt
  clear hbt
  have sa := limbs_size a
  have sb := limbs_size b
  go_enter Tryz.func122, Tryz.ntmps122
  go_wp2_with fail
  go_loopw [5, 7] (fun c i wr => ∃ (k : Nat) (cb : Bool), k ≤ 6 ∧ i = .int .i64 k ∧ c = .bool cb ∧ Hid (cbit (subN a b) b k = cb) ∧
      Blk 63 wr w.heap.size (limbs a) ∧ Blk 63 wr (w.heap.size + 1) (limbs b) ∧
      Blk 63 wr (w.heap.size + 1 + 1) (fillTo (limbs 0) (fun i => .int .u64 (limb (subN a b) i)) k) ∧ Below w.heap.size w wr) (fun _ i _ => 6 - (intOf i).toNat)
  case atStart =>
    refine ⟨0, false, by omega, rfl, rfl, cbit_zero _ b, ((Blk.new w _).alloc _).alloc _, ?_, ?_, ((((Below.refl _ _).alloc (Nat.le_refl _) _).alloc (by simp) _).alloc (by simp <;> omega) _)⟩
    · have := (Blk.new (T := 63) (w.alloc (.cells (limbs a) 63)) (limbs b)).alloc (.cells #[.int .u64 0, .int .u64 0, .int .u64 0, .int .u64 0, .int .u64 0, .int .u64 0] 63)
      simpa using this
    · have := Blk.new (T := 63) ((w.alloc (.cells (limbs a) 63)).alloc (.cells (limbs b) 63)) #[.int .u64 0, .int .u64 0, .int .u64 0, .int .u64 0, .int .u64 0, .int .u64 0]
      rw [fillTo, limbs_zero]
      simpa using this
  case round =>
    obtain ⟨k, cb, hk, rfl, rfl, hc, ha, hb, hs, hbel⟩ := hrel
    by_cases hlt : k < 6
    · have ca := ha.cell k (limbs_get a k hlt)
      have cb' := hb.cell k (limbs_get b k hlt)
      have cs := hs.cell k ((fillTo_hi _ _ k k (Nat.le_refl _)).trans (limbs_get 0 k hlt))
      have fs := hs.free k
      go_wp2_with fail
      go_region_with (go_at_call 193; refine (wordSub_any _ _ _ _ (limb_w a k) (limb_w b k)).mono ?_; rintro e w' ⟨rfl, rfl⟩)
      all_goals go_wp2
      all_goals
        go_roundw
        case rel => exact ⟨k + 1, _, by omega, by go_num, rfl, sub_borrow a b k cb HT.out (by omega) hc.out, (ha.other _ _ (by simp; omega)).drew, (hb.other _ _ (by simp)).drew, (hs.set k _ (by rw [sub_limb a b k cb HT.out (by omega) hc.out]; rfl)).drew, (hbel.setCell (by simp; omega) _).drew⟩
        case measure => simp [intOf]; omega
    · have : k = 6 := by omega
      subst this
      rw [fillTo_all (limbs 0) _ (subN a b) rfl (fun i _ => rfl)] at hs
      have c0 := hs.cell 0 (limbs_get _ 0 (by decide))
      have c1 := hs.cell 1 (limbs_get _ 1 (by decide))
      have c2 := hs.cell 2 (limbs_get _ 2 (by decide))
      have c3 := hs.cell 3 (limbs_get _ 3 (by decide))
      have c4 := hs.cell 4 (limbs_get _ 4 (by decide))
      have c5 := hs.cell 5 (limbs_get _ 5 (by decide))
      have f0 := hs.free 0
      have f1 := hs.free 1
      have f2 := hs.free 2
      have f3 := hs.free 3
      have f4 := hs.free 4
      have f5 := hs.free 5
      clear ha hb hlt
      go_wp2_with fail
      rw [hs.keep 0 _ (limbs_get _ 0 (by decide)), hs.keep 1 _ (limbs_get _ 1 (by decide)), hs.keep 2 _ (limbs_get _ 2 (by decide)), hs.keep 3 _ (limbs_get _ 3 (by decide)), hs.keep 4 _ (limbs_get _ 4 (by decide)), hs.keep 5 _ (limbs_get _ 5 (by decide))]
      refine bodyPost_ret (v := .tuple #[W (subN a b), .bool cb]) (by simp [results, Tryz.results122, go_sem, c0, c1, c2, c3, c4, c5, limbs]) rfl ⟨by rw [hc.out], hbel⟩
open Go.RowKit
theorem div_step (a k : Nat) : a / 2 ^ (64 * k) = a / 2 ^ (64 * (k + 1)) * 18446744073709551616 + limbN a k := by
  unfold limbN
  rw [pw_succ, ← Nat.div_div_eq_div_mul]
  have := Nat.div_add_mod (a / 2 ^ (64 * k)) 18446744073709551616
  omega
theorem cmp_less (a b k : Nat) (h : a / 2 ^ (64 * (k + 1)) = b / 2 ^ (64 * (k + 1))) (hl : limbN a k < limbN b k) : a < b := by
  have h1 := div_step a k
  have h2 := div_step b k
  rw [h] at h1
  rcases Nat.lt_or_ge a b with hab | hab
  · exact hab
  · have := Nat.div_le_div_right (c := 2 ^ (64 * k)) hab
    omega
theorem cmp_same (a b k : Nat) (h : a / 2 ^ (64 * (k + 1)) = b / 2 ^ (64 * (k + 1))) (hl : limbN a k = limbN b k) : a / 2 ^ (64 * k) = b / 2 ^ (64 * k) := by
  rw [div_step a k, div_step b k, h, hl]
def EqFrom (a b k : Nat) : Prop := a / 2 ^ (64 * k) = b / 2 ^ (64 * k)
theorem eqFrom6 {a b : Nat} (ha : a < top6) (hb : b < top6) : EqFrom a b 6 := by
  unfold top6 at ha hb
  unfold EqFrom
  rw [Nat.div_eq_of_lt ha, Nat.div_eq_of_lt hb]
theorem below_drewN {B : Nat} {w w' : World} (h : Below B w w') (n : Nat) : Below B w (w'.drewN n) := ⟨h.os, h.tape, h.output, h.size, h.block⟩
theorem limb_lt (a b k : Nat) : limb a k < limb b k ↔ limbN a k < limbN b k := by unfold limb; omega
theorem wideCmp_any (a b : Nat) (w : World) (ha : a < top6) (hb : b < top6) :
    Calls Tryz.prog 46 #[W a, W b] w fun e w' => e = .returned (.int .i64 (cmpN a b)) ∧ Below w.heap.size w w' := by
  have sa := limbs_size a
  have sb := limbs_size b
  have E6 := eqFrom6 ha hb
  clear ha hb
  go_enter Tryz.func46, Tryz.ntmps46
  go_wp2_with fail
  go_loopw [5] (fun i wr => ∃ k : Nat, k ≤ 6 ∧ i = .int .i64 ((k : Int) - 1) ∧ EqFrom a b k ∧ Blk 63 wr w.heap.size (limbs a) ∧ Blk 63 wr (w.heap.size + 1) (limbs b) ∧ Below w.heap.size w wr) (fun i _ => (intOf i + 1).toNat)
  case atStart =>
    refine ⟨6, by omega, rfl, E6, (Blk.new w _).alloc _, ?_, ((Below.refl _ _).alloc (Nat.le_refl _) _).alloc (by simp) _⟩
    have := Blk.new (T := 63) (w.alloc (.cells (limbs a) 63)) (limbs b)
    simpa using this
  case round =>
    obtain ⟨k, hk, rfl, hE, hA, hB, hbel⟩ := hrel
    cases k with
    | zero =>
      have Z := Lib.hid (show (0 : Int) = cmpN a b by
        have : a = b := by have := hE; unfold EqFrom at this; simpa using this
        unfold cmpN; rw [if_neg (by omega), if_neg (by omega)])
      clear hE
      go_wp2_with fail
      go_ret
      exact ⟨ret_int Z.out, hbel⟩
    | succ j =>
      have ca := hA.cell j (limbs_get a j (by omega))
      have cb := hB.cell j (limbs_get b j (by omega))
      rw [show ((j + 1 : Nat) : Int) - 1 = (j : Int) by omega]
      by_cases h1 : limb a j < limb b j
      · have Z := Lib.hid (show (-1 : Int) = cmpN a b by
          have := cmp_less a b j hE ((limb_lt a b j).1 h1)
          unfold cmpN; rw [if_pos this])
        have d1 : decide (limb a j < limb b j) = true := decide_eq_true h1
        clear hE
        go_wp2_with fail
        go_quiet (fail)
        go_wp2_with fail
        go_ret
        exact ⟨ret_int Z.out, below_drewN hbel _⟩
      · have d1 : decide (limb a j < limb b j) = false := decide_eq_false h1
        by_cases h2 : limb b j < limb a j
        · have Z := Lib.hid (show (1 : Int) = cmpN a b by
            have := cmp_less b a j hE.symm ((limb_lt b a j).1 h2)
            unfold cmpN; rw [if_neg (by omega), if_pos this])
          have d2 : decide (limb b j < limb a j) = true := decide_eq_true h2
          clear hE h1
          go_wp2_with fail
          go_quiet (fail)
          go_wp2_with fail
          go_quiet (fail)
          go_wp2_with fail
          go_ret
          exact ⟨ret_int Z.out, below_drewN (below_drewN hbel _) _⟩
        · have d2 : decide (limb b j < limb a j) = false := decide_eq_false h2
          have S : EqFrom a b j := cmp_same a b j hE (by unfold limb at h1 h2; omega)
          clear hE h1 h2
          go_wp2_with fail
          go_quiet (fail)
          go_wp2_with fail
          go_quiet (fail)
          go_wp2_with fail
          go_roundw
          case rel => exact ⟨j, by omega, rfl, S, hA, hB, below_drewN hbel _⟩
          case measure => simp [intOf]
open Go.RowKit
theorem top6_pow (n : Nat) (h : n = 64 * 6) : top6 = 2 ^ n := by subst h; exact top6.eq_1
theorem dbl_or (R : Nat) : R * 2 ||| 1 = 2 * R + 1 := by rw [or_one]; omega
theorem set_two (r a m qi s : Nat) (hm : m = 64 * qi + s) (hs : s + 2 ≤ 64) : setRow (limbs (r * 2 ^ 2)) 0 (#[.int .u64 (Go.bits .or .u64 (limb (r * 2 ^ 2) 0) (Go.bits .and .u64 (limb a qi / 2 ^ s) 3))] : Array Value).toList = limbs (r * 2 ^ 2 ||| a / 2 ^ m % 4) := by
  have hd : a / 2 ^ m % 4 < 4 := Nat.mod_lt _ (by decide)
  have e1 : limb a qi / 2 ^ s = ((limbN a qi / 2 ^ s : Nat) : Int) := limb_shr a qi s
  have e2 : limbN a qi / 2 ^ s % 4 = a / 2 ^ m % 4 := by
    unfold limbN
    rw [hm, Nat.pow_add, ← Nat.div_div_eq_div_mul]
    generalize a / 2 ^ (64 * qi) = x
    have hp : (18446744073709551616 : Nat) = 2 ^ s * (4 * 2 ^ (64 - s - 2)) := by
      rw [show (4 : Nat) = 2 ^ 2 from rfl, ← Nat.pow_add, ← Nat.pow_add, B64]; congr 1; omega
    rw [hp, Nat.mod_mul_right_div_self, Nat.mod_mul_right_mod]
  have hlt : limbN a qi / 2 ^ s < 18446744073709551616 := Nat.lt_of_le_of_lt (Nat.div_le_self _ _) (limbN_lt a qi)
  have e3 : Go.bits .and .u64 (limb a qi / 2 ^ s) 3 = ((a / 2 ^ m % 4 : Nat) : Int) := by
    rw [e1, show (3 : Int) = ((3 : Nat) : Int) from rfl, u64_and_nat _ _ hlt (by decide), ← e2]
    congr 1
    exact Nat.and_two_pow_sub_one_eq_mod _ 2
  rw [e3]
  generalize a / 2 ^ m % 4 = d at *
  have e4 : limb d 0 = ((d : Nat) : Int) := by unfold limb limbN; rw [Nat.mul_zero, Nat.pow_zero, Nat.div_one, Nat.mod_eq_of_lt (by omega)]
  have e5 : ∀ j, 1 ≤ j → limb d j = 0 := by
    intro j hj; unfold limb limbN
    rw [Nat.div_eq_of_lt (Nat.lt_of_lt_of_le hd (Nat.le_trans (show 4 ≤ 2 ^ (64 * 1) by decide) (pw_mono0 1 j hj)))]; rfl
  rw [← e4, limb_or]
  have key : ∀ j, 1 ≤ j → limb (r * 2 ^ 2 ||| d) j = limb (r * 2 ^ 2) j := by
    intro j hj
    rw [← limb_or, e5 j hj]
    unfold limb
    rw [show (0 : Int) = ((0 : Nat) : Int) from rfl, u64_or_nat _ _ (limbN_lt _ j) (by decide), Nat.or_zero]
  show #[_, _, _, _, _, _] = limbs _
  unfold limbs
  rw [key 1 (by decide), key 2 (by decide), key 3 (by decide), key 4 (by decide), key 5 (by decide)]
theorem set_two_d (r a m qi s d : Nat) (hd : a / 2 ^ m % 4 = d) (hm : m = 64 * qi + s) (hs : s + 2 ≤ 64) : setRow (limbs (r * 4)) 0 (#[.int .u64 (Go.bits .or .u64 (limb (r * 4) 0) (Go.bits .and .u64 (limb a qi / 2 ^ s) 3))] : Array Value).toList = limbs (r * 4 ||| d) := by
  subst hd; exact set_two r a m qi s hm hs
theorem four_or (r d : Nat) (hd : d < 4) : r * 2 ^ 2 ||| d = 4 * r + d := by
  have := Nat.two_pow_add_eq_or_of_lt (i := 2) (b := d) hd r
  rw [Nat.mul_comm]; rw [← this]
theorem four_or1 (r : Nat) : r * 2 ^ 2 ||| 1 = 4 * r + 1 := four_or r 1 (by decide)
open Go.RowKit
theorem big_192_n (n : Nat) (h : n + n = 64 * 6) (h4 : 4 < n) : 2 ^ n * 16 < top6 := by
  rw [top6_pow (n + n) h, show n + n = n + 4 + (n - 4) by omega, Nat.pow_add, Nat.pow_add]
  have h1 : 1 < 2 ^ (n - 4) := Nat.one_lt_two_pow (by omega)
  have h2 := Nat.mul_lt_mul_of_pos_left h1 (Nat.mul_pos (two_pos n) (show 0 < 2 ^ 4 by decide))
  omega
theorem big_192 : 2 ^ 192 * 16 < top6 := big_192_n 192 rfl (by decide)
set_option maxHeartbeats 3200000 in
theorem quotSqrt_any (a : Nat) (w0 : World) (ha : a < top6) :
    Calls Tryz.prog 105 #[W a] w0 fun e w' => e = .returned (.tuple #[W (isq a), W (a - isq a * isq a)]) ∧ Below w0.heap.size w0 w' := by
  have H := Own.start w0
  have hl4 : lenN a ≤ 384 := (lenN_le a 384).2 (by rw [show 384 = 64 * 6 from rfl, ← top6.eq_1]; exact ha)
  have cN := fun w => wideLen_any a w ha
  have HA := Lib.hid ha
  clear ha
  go_enter Tryz.func105, Tryz.ntmps105
  go_wp2_with (first
    | ((with_reducible show wpList _ _ _ (⟨some 1, .box _ _, _, _, _, _⟩ :: _) _ _); refine H.xb ?_; (intro ga w H; simp only [Act.put, q1_, q2_, q3_]))
    | ((with_reducible show wpList _ _ _ (⟨some 2, .alloc 63, _, _, _, _⟩ :: _) _ _); refine H.xa ?_; (intro gq w H; simp only [Act.put, q1_, q2_, q3_]))
    | ((with_reducible show wpList _ _ _ (⟨some 3, .alloc 63, _, _, _, _⟩ :: _) _ _); refine H.xa ?_; (intro gr w H; simp only [Act.put, q1_, q2_, q3_]))
    | ((with_reducible show wpList _ _ _ (⟨_, .store 25 _ _, _, _, _, _⟩ :: _) _ _); refine H.xt ?_ (hv := set_or1 _); (intro w H; simp only [Act.put]))
    | ((with_reducible show wpList _ _ _ (⟨_, .box _ _, _, _, _, _⟩ :: _) _ _); refine H.xb ?_; (intro g w H; simp only [Act.put, q1_, q2_, q3_]))
    | ((with_reducible show wpList _ _ _ (⟨_, .alloc _, _, _, _, _⟩ :: _) _ _); refine H.xa ?_; (intro g w H; simp only [Act.put, q1_, q2_, q3_]))
    | ((with_reducible show wpList _ _ _ (⟨_, .load _ _, _, _, _, _⟩ :: _) _ _); (first | refine H.xl ?_ | refine H.xm ?_); simp only [Act.put, q1_, q2_, q3_])
    | ((with_reducible show wpList _ _ _ (⟨_, .store _ _ _, _, _, _, _⟩ :: _) _ _); (first | refine H.xs ?_ | refine H.xt ?_); (intro w H; simp only [Act.put]))
    | (go_at_call 103; ((with_reducible refine (cN _).mono ?_); rintro e w ⟨rfl, hb⟩; replace H := H.call hb; clear hb))
    )
  go_step3
  go_wp2_with (first
    | ((with_reducible show wpList _ _ _ (⟨some 1, .box _ _, _, _, _, _⟩ :: _) _ _); refine H.xb ?_; (intro ga w H; simp only [Act.put, q1_, q2_, q3_]))
    | ((with_reducible show wpList _ _ _ (⟨some 2, .alloc 63, _, _, _, _⟩ :: _) _ _); refine H.xa ?_; (intro gq w H; simp only [Act.put, q1_, q2_, q3_]))
    | ((with_reducible show wpList _ _ _ (⟨some 3, .alloc 63, _, _, _, _⟩ :: _) _ _); refine H.xa ?_; (intro gr w H; simp only [Act.put, q1_, q2_, q3_]))
    | ((with_reducible show wpList _ _ _ (⟨_, .store 25 _ _, _, _, _, _⟩ :: _) _ _); refine H.xt ?_ (hv := set_or1 _); (intro w H; simp only [Act.put]))
    | ((with_reducible show wpList _ _ _ (⟨_, .box _ _, _, _, _, _⟩ :: _) _ _); refine H.xb ?_; (intro g w H; simp only [Act.put, q1_, q2_, q3_]))
    | ((with_reducible show wpList _ _ _ (⟨_, .alloc _, _, _, _, _⟩ :: _) _ _); refine H.xa ?_; (intro g w H; simp only [Act.put, q1_, q2_, q3_]))
    | ((with_reducible show wpList _ _ _ (⟨_, .load _ _, _, _, _, _⟩ :: _) _ _); (first | refine H.xl ?_ | refine H.xm ?_); simp only [Act.put, q1_, q2_, q3_])
    | ((with_reducible show wpList _ _ _ (⟨_, .store _ _ _, _, _, _, _⟩ :: _) _ _); (first | refine H.xs ?_ | refine H.xt ?_); (intro w H; simp only [Act.put]))
    | (go_at_call 103; ((with_reducible refine (cN _).mono ?_); rintro e w ⟨rfl, hb⟩; replace H := H.call hb; clear hb))
    )
  go_step3
  go_wp2_with fail
  go_loopw [4] (fun i wr => ∃ (k : Nat) (e : Int), e = 2 * k ∧ k ≤ 192 ∧ i = .int .i64 e ∧ Own w0 wr [(gr, 63, limbs (a / 2 ^ (2 * k) - isq (a / 2 ^ (2 * k)) * isq (a / 2 ^ (2 * k)))), (gq, 63, limbs (isq (a / 2 ^ (2 * k)))), (ga, 63, limbs a)]) (fun i _ => (intOf i).toNat)
  case atStart =>
    refine ⟨(lenN a + 1) / 2, ((lenN a : Int) + 1) / 2 * 2, by omega, by omega, rfl, ?_⟩
    rw [Nat.div_eq_of_lt (Nat.lt_of_lt_of_le (lenN_lt a) (Nat.pow_le_pow_right (by decide) (by omega))), isq_zero, Nat.zero_sub]; exact H
  case round =>
    clear H
    obtain ⟨k, e, hke, hk, rfl, H⟩ := hrel
    by_cases h0 : k = 0
    · subst h0
      obtain rfl : e = 0 := by omega
      rw [Nat.mul_zero, Nat.pow_zero, Nat.div_one] at H
      clear cN hke
      go_wp2_with (first
    | ((with_reducible show wpList _ _ _ (⟨some 1, .box _ _, _, _, _, _⟩ :: _) _ _); refine H.xb ?_; (intro ga w H; simp only [Act.put, q1_, q2_, q3_]))
    | ((with_reducible show wpList _ _ _ (⟨some 2, .alloc 63, _, _, _, _⟩ :: _) _ _); refine H.xa ?_; (intro gq w H; simp only [Act.put, q1_, q2_, q3_]))
    | ((with_reducible show wpList _ _ _ (⟨some 3, .alloc 63, _, _, _, _⟩ :: _) _ _); refine H.xa ?_; (intro gr w H; simp only [Act.put, q1_, q2_, q3_]))
    | ((with_reducible show wpList _ _ _ (⟨_, .store 25 _ _, _, _, _, _⟩ :: _) _ _); refine H.xt ?_ (hv := set_or1 _); (intro w H; simp only [Act.put]))
    | ((with_reducible show wpList _ _ _ (⟨_, .box _ _, _, _, _, _⟩ :: _) _ _); refine H.xb ?_; (intro g w H; simp only [Act.put, q1_, q2_, q3_]))
    | ((with_reducible show wpList _ _ _ (⟨_, .alloc _, _, _, _, _⟩ :: _) _ _); refine H.xa ?_; (intro g w H; simp only [Act.put, q1_, q2_, q3_]))
    | ((with_reducible show wpList _ _ _ (⟨_, .load _ _, _, _, _, _⟩ :: _) _ _); (first | refine H.xl ?_ | refine H.xm ?_); simp only [Act.put, q1_, q2_, q3_])
    | ((with_reducible show wpList _ _ _ (⟨_, .store _ _ _, _, _, _, _⟩ :: _) _ _); (first | refine H.xs ?_ | refine H.xt ?_); (intro w H; simp only [Act.put]))
    | ((with_reducible show Code.wp _ (.region 12 _ true) _ _ _); refine H.heldSub rfl (List.Sublist.refl _) ?_; intro H; (first | refine H.zl 0 ?_ | refine H.zm 0 ?_); (try simp only [Act.put, q1_, q2_, q3_]); (try simp only [q4_, q5_, q6_]); (first | refine H.zl 1 ?_ | refine H.zm 1 ?_); (try simp only [Act.put, q1_, q2_, q3_]); (try simp only [q4_, q5_, q6_]); refine held1 2 ?_; (first | refine H.ys ?_ | refine H.yt ?_); intro w H; refine H.nx ?_; (try simp only [Act.put]); refine held1 3 ?_; (first | refine H.ys ?_ | refine H.yt ?_); intro w H; refine H.nx ?_; (try simp only [Act.put]); refine wpAnyH_done (by kernel_rfl) ?_ _)
    )
      (try rw [Exit.noGoto_ret])
      refine bodyPost_ret (results_cc rfl rfl (H.res rW v3_ (ext_limbs _) (by rfl)) rfl (H.res rW v3_ (ext_limbs _) (by rfl))) rfl ⟨?_, H.below⟩
      rfl
    · obtain ⟨m, rfl⟩ : ∃ m, k = m + 1 := ⟨k - 1, by omega⟩
      obtain rfl : e = 2 * (m : Int) + 2 := by omega
      have hAt : a / 2 ^ (2 * (m + 1)) < top6 := Nat.lt_of_le_of_lt (Nat.div_le_self _ _) HA.out
      have hrt : isq (a / 2 ^ (2 * (m + 1))) < 2 ^ 192 := isq_lt _ 192 (by rw [show 192 + 192 = 64 * 6 from rfl, ← top6.eq_1]; exact hAt)
      have hrest := isq_rest (a / 2 ^ (2 * (m + 1)))
      obtain ⟨rd1, rd2⟩ := sqrt_round a (2 * m) _ rfl
      rw [show 2 * m + 2 = 2 * (m + 1) by omega] at rd1 rd2
      have hd4 : a / 2 ^ (2 * m) % 4 < 4 := Nat.mod_lt _ (by decide)
      have hfo := fun r => four_or r (a / 2 ^ (2 * m) % 4) hd4
      generalize hDD : a / 2 ^ (2 * m) % 4 = d at rd1 rd2 hd4 hfo
      generalize hRR : a / 2 ^ (2 * (m + 1)) - isq (a / 2 ^ (2 * (m + 1))) * isq (a / 2 ^ (2 * (m + 1))) = r at *
      generalize hQQ : isq (a / 2 ^ (2 * (m + 1))) = q at *
      generalize hR2 : a / 2 ^ (2 * m) - isq (a / 2 ^ (2 * m)) * isq (a / 2 ^ (2 * m)) = r2 at *
      generalize hQ2 : isq (a / 2 ^ (2 * m)) = q2 at *
      have h192 := big_192
      obtain ⟨P, hP⟩ : ∃ P, P = 2 ^ 192 := ⟨_, rfl⟩
      rw [← hP] at hrt h192
      have hq4 : q * 2 ^ 2 < top6 := by omega
      have cL1 := fun w => wideLeft_any r 2 w (by omega)
      have cL2 := fun w => wideLeft_any q 2 w (by omega)
      have cL3 := fun w => wideLeft_any q 1 w (by omega)
      rw [show clip 2 = 2 from rfl, show 2 ^ 2 = 4 from rfl] at cL1 cL2
      rw [show clip 1 = 1 from rfl, Nat.pow_one] at cL3
      obtain ⟨qi, hqi⟩ : ∃ qi : Nat, (2 * (m : Int)) / 64 = qi := ⟨2 * m / 64, by omega⟩
      obtain ⟨sh, hsh⟩ : ∃ sh : Nat, (2 * (m : Int)) % 64 = sh := ⟨2 * m % 64, by omega⟩
      have hm : 2 * m = 64 * qi + sh := by omega
      have hs64 : sh + 2 ≤ 64 := by omega
      have hq6 : qi < 6 := by omega
      have HM := Lib.hid hm
      have HDD := Lib.hid hDD
      have HR2 := Lib.hid hR2
      have HQ2 := Lib.hid hQ2
      have HRD1 := Lib.hid rd1
      have HRD2 := Lib.hid rd2
      have HFO := Lib.hid hfo
      clear hm hDD hR2 hQ2 hRR hQQ rd1 rd2 hfo cN h0 hAt hP
      have G : (limbs a)[qi]? = some (.int .u64 (limb a qi)) := limbs_get a qi hq6
      have hx : 2 * ((m : Int) + 1) - 2 = 2 * (m : Int) := by omega
      have hq6i : (qi : Int) < 6 := by omega
      have t1 : IntKind.i64.wrap ((2 * (m : Int)).tdiv 64) = (qi : Int) := by rw [Int.tdiv_eq_ediv_of_nonneg (by omega), hqi]; exact IntWalk.i64_in _ (by omega)
      have t2 : (2 * (m : Int)).tmod 64 = (sh : Int) := by rw [Int.tmod_eq_emod_of_nonneg (by omega), hsh]
      have t3 : IntKind.u64.wrap (sh : Int) = (sh : Int) := by rw [IntKind.wrap_u64]; omega
      have t4 : min sh 64 = sh := by omega
      have cC := fun w => wideCmp_any (r * 2 ^ 2 ||| d) (q * 2 ^ 2 ||| 1) w (by rw [HFO.out]; omega) (by rw [four_or1]; omega)
      have cS := fun w => wideSub_any (r * 2 ^ 2 ||| d) (q * 2 ^ 2 ||| 1) w (by rw [four_or1]; omega)
      rw [show 2 ^ 2 = 4 from rfl] at cC cS
      by_cases hlt : 4 * r + d < 4 * q + 1
      · have hc : decide (cmpN (r * 4 ||| d) (q * 4 ||| 1) < 0) = true := by unfold cmpN; rw [show r * 4 ||| d = 4 * r + d from HFO.out r, show q * 4 ||| 1 = 4 * q + 1 from four_or1 q, if_pos hlt]; decide
        have E1 := Lib.hid (show limbs r2 = limbs (r * 4 ||| d) by rw [(HRD1.out hlt).2, show r * 4 ||| d = 4 * r + d from HFO.out r])
        have E2 := Lib.hid (show limbs q2 = limbs (q * 2) by rw [(HRD1.out hlt).1, Nat.mul_comm])
        clear HRD1 HRD2 HFO hlt hrest hrt h192 hq4
        go_wp2_with (first
    | ((with_reducible show wpList _ _ _ (⟨some 1, .box _ _, _, _, _, _⟩ :: _) _ _); refine H.xb ?_; (intro ga w H; simp only [Act.put, q1_, q2_, q3_]))
    | ((with_reducible show wpList _ _ _ (⟨some 2, .alloc 63, _, _, _, _⟩ :: _) _ _); refine H.xa ?_; (intro gq w H; simp only [Act.put, q1_, q2_, q3_]))
    | ((with_reducible show wpList _ _ _ (⟨some 3, .alloc 63, _, _, _, _⟩ :: _) _ _); refine H.xa ?_; (intro gr w H; simp only [Act.put, q1_, q2_, q3_]))
    | ((with_reducible show wpList _ _ _ (⟨_, .load 25 _, _, _, _, _⟩ :: _) _ _); refine H.xm ?_ (hv := by first | with_reducible exact G); simp only [Act.put, q1_, q2_, q3_])
    | ((with_reducible show wpList _ _ _ (⟨_, .store 25 _ _, _, _, _, _⟩ :: _) _ _); refine H.xt ?_ (hv := set_or1 _); (intro w H; simp only [Act.put]))
    | ((with_reducible show wpList _ _ _ (⟨_, .box _ _, _, _, _, _⟩ :: _) _ _); refine H.xb ?_; (intro g w H; simp only [Act.put, q1_, q2_, q3_]))
    | ((with_reducible show wpList _ _ _ (⟨_, .alloc _, _, _, _, _⟩ :: _) _ _); refine H.xa ?_; (intro g w H; simp only [Act.put, q1_, q2_, q3_]))
    | ((with_reducible show wpList _ _ _ (⟨_, .load _ _, _, _, _, _⟩ :: _) _ _); (first | refine H.xl ?_ | refine H.xm ?_); simp only [Act.put, q1_, q2_, q3_])
    | ((with_reducible show wpList _ _ _ (⟨_, .store _ _ _, _, _, _, _⟩ :: _) _ _); (first | refine H.xs ?_ | refine H.xt ?_); (intro w H; simp only [Act.put]))
    | ((with_reducible show Code.wp _ (.region 5 _ true) _ _ _); refine H.heldSub rfl (List.Sublist.cons _ (List.Sublist.refl _)) ?_; intro H; refine H.zr 0 ?_; (try simp only [Act.put, q1_, q2_, q3_]); (try simp only [q4_, q5_, q6_]); refine H.zr 2 ?_; (try simp only [Act.put, q1_, q2_, q3_]); (try simp only [q4_, q5_, q6_]); refine H.zr 3 ?_; (try simp only [Act.put, q1_, q2_, q3_]); (try simp only [q4_, q5_, q6_]); refine H.zr 4 ?_; (try simp only [Act.put, q1_, q2_, q3_]); (try simp only [q4_, q5_, q6_]); (first | refine H.zm 5 ?_ (hv := by first | with_reducible exact G) | refine H.zl 5 ?_ | refine H.zm 5 ?_); (try simp only [Act.put, q1_, q2_, q3_]); (try simp only [q4_, q5_, q6_]); refine H.zr 6 ?_; (try simp only [Act.put, q1_, q2_, q3_]); (try simp only [q4_, q5_, q6_]); refine H.zr 7 ?_; (try simp only [Act.put, q1_, q2_, q3_]); (try simp only [q4_, q5_, q6_]); refine H.zr 8 ?_; (try simp only [Act.put, q1_, q2_, q3_]); (try simp only [q4_, q5_, q6_]); refine H.zr 9 ?_; (try simp only [Act.put, q1_, q2_, q3_]); (try simp only [q4_, q5_, q6_]); refine H.zr 10 ?_; (try simp only [Act.put, q1_, q2_, q3_]); (try simp only [q4_, q5_, q6_]); refine held1 1 ?_; (first | refine H.ym ?_ (hv := by first | with_reducible exact G) | refine H.yl ?_ | refine H.ym ?_); refine H.nx ?_; (try simp only [Act.put, q1_, q2_, q3_]); (try simp only [q4_, q5_, q6_]); refine H.zr 11 ?_; (try simp only [Act.put, q1_, q2_, q3_]); (try simp only [q4_, q5_, q6_]); refine H.zr 12 ?_; (try simp only [Act.put, q1_, q2_, q3_]); (try simp only [q4_, q5_, q6_]); refine held1 13 ?_; (first | refine H.yt ?_ (hv := set_two_d _ a (2 * m) _ _ _ HDD.out HM.out (by omega)) | refine H.ys ?_ | refine H.yt ?_); intro w H; refine H.nx ?_; (try simp only [Act.put]); refine wpAnyH_done (by kernel_rfl) ?_ _)
    | (go_at_call 104; ((with_reducible refine (cL1 _).mono ?_); rintro e w ⟨rfl, hb⟩; replace H := H.call hb; clear hb))
    | (go_at_call 104; ((with_reducible refine (cL2 _).mono ?_); rintro e w ⟨rfl, hb⟩; replace H := H.call hb; clear hb))
    | (go_at_call 104; ((with_reducible refine (cL3 _).mono ?_); rintro e w ⟨rfl, hb⟩; replace H := H.call hb; clear hb))
    | (go_at_call 46; ((with_reducible refine (cC _).mono ?_); rintro e w ⟨rfl, hb⟩; replace H := H.call hb; clear hb))
    )
        all_goals
          go_roundw
          case rel => exact ⟨m, 2 * (m : Int), rfl, by omega, by go_num, by rw [HQ2.out, HR2.out, E1.out, E2.out]; exact H.sub v6_⟩
          case measure => simp [intOf] <;> omega
      · have hc : decide (cmpN (r * 4 ||| d) (q * 4 ||| 1) < 0) = false := by unfold cmpN; rw [show r * 4 ||| d = 4 * r + d from HFO.out r, show q * 4 ||| 1 = 4 * q + 1 from four_or1 q, if_neg hlt]; split <;> decide
        have E1 := Lib.hid (show limbs r2 = limbs (subN (r * 4 ||| d) (q * 4 ||| 1)) by rw [limbs_sub _ _ (by rw [show r * 4 ||| d = 4 * r + d from HFO.out r, show q * 4 ||| 1 = 4 * q + 1 from four_or1 q]; omega), (HRD2.out (by omega)).2, show r * 4 ||| d = 4 * r + d from HFO.out r, show q * 4 ||| 1 = 4 * q + 1 from four_or1 q])
        have E2 := Lib.hid (show limbs q2 = limbs (q * 2 ||| 1) by rw [(HRD2.out (by omega)).1, dbl_or])
        clear HRD1 HRD2 HFO hlt hrest hrt h192 hq4
        go_wp2_with (first
    | ((with_reducible show wpList _ _ _ (⟨some 1, .box _ _, _, _, _, _⟩ :: _) _ _); refine H.xb ?_; (intro ga w H; simp only [Act.put, q1_, q2_, q3_]))
    | ((with_reducible show wpList _ _ _ (⟨some 2, .alloc 63, _, _, _, _⟩ :: _) _ _); refine H.xa ?_; (intro gq w H; simp only [Act.put, q1_, q2_, q3_]))
    | ((with_reducible show wpList _ _ _ (⟨some 3, .alloc 63, _, _, _, _⟩ :: _) _ _); refine H.xa ?_; (intro gr w H; simp only [Act.put, q1_, q2_, q3_]))
    | ((with_reducible show wpList _ _ _ (⟨_, .load 25 _, _, _, _, _⟩ :: _) _ _); refine H.xm ?_ (hv := by first | with_reducible exact G); simp only [Act.put, q1_, q2_, q3_])
    | ((with_reducible show wpList _ _ _ (⟨_, .store 25 _ _, _, _, _, _⟩ :: _) _ _); refine H.xt ?_ (hv := set_or1 _); (intro w H; simp only [Act.put]))
    | ((with_reducible show wpList _ _ _ (⟨_, .box _ _, _, _, _, _⟩ :: _) _ _); refine H.xb ?_; (intro g w H; simp only [Act.put, q1_, q2_, q3_]))
    | ((with_reducible show wpList _ _ _ (⟨_, .alloc _, _, _, _, _⟩ :: _) _ _); refine H.xa ?_; (intro g w H; simp only [Act.put, q1_, q2_, q3_]))
    | ((with_reducible show wpList _ _ _ (⟨_, .load _ _, _, _, _, _⟩ :: _) _ _); (first | refine H.xl ?_ | refine H.xm ?_); simp only [Act.put, q1_, q2_, q3_])
    | ((with_reducible show wpList _ _ _ (⟨_, .store _ _ _, _, _, _, _⟩ :: _) _ _); (first | refine H.xs ?_ | refine H.xt ?_); (intro w H; simp only [Act.put]))
    | ((with_reducible show Code.wp _ (.region 5 _ true) _ _ _); refine H.heldSub rfl (List.Sublist.cons _ (List.Sublist.refl _)) ?_; intro H; refine H.zr 0 ?_; (try simp only [Act.put, q1_, q2_, q3_]); (try simp only [q4_, q5_, q6_]); refine H.zr 2 ?_; (try simp only [Act.put, q1_, q2_, q3_]); (try simp only [q4_, q5_, q6_]); refine H.zr 3 ?_; (try simp only [Act.put, q1_, q2_, q3_]); (try simp only [q4_, q5_, q6_]); refine H.zr 4 ?_; (try simp only [Act.put, q1_, q2_, q3_]); (try simp only [q4_, q5_, q6_]); (first | refine H.zm 5 ?_ (hv := by first | with_reducible exact G) | refine H.zl 5 ?_ | refine H.zm 5 ?_); (try simp only [Act.put, q1_, q2_, q3_]); (try simp only [q4_, q5_, q6_]); refine H.zr 6 ?_; (try simp only [Act.put, q1_, q2_, q3_]); (try simp only [q4_, q5_, q6_]); refine H.zr 7 ?_; (try simp only [Act.put, q1_, q2_, q3_]); (try simp only [q4_, q5_, q6_]); refine H.zr 8 ?_; (try simp only [Act.put, q1_, q2_, q3_]); (try simp only [q4_, q5_, q6_]); refine H.zr 9 ?_; (try simp only [Act.put, q1_, q2_, q3_]); (try simp only [q4_, q5_, q6_]); refine H.zr 10 ?_; (try simp only [Act.put, q1_, q2_, q3_]); (try simp only [q4_, q5_, q6_]); refine held1 1 ?_; (first | refine H.ym ?_ (hv := by first | with_reducible exact G) | refine H.yl ?_ | refine H.ym ?_); refine H.nx ?_; (try simp only [Act.put, q1_, q2_, q3_]); (try simp only [q4_, q5_, q6_]); refine H.zr 11 ?_; (try simp only [Act.put, q1_, q2_, q3_]); (try simp only [q4_, q5_, q6_]); refine H.zr 12 ?_; (try simp only [Act.put, q1_, q2_, q3_]); (try simp only [q4_, q5_, q6_]); refine held1 13 ?_; (first | refine H.yt ?_ (hv := set_two_d _ a (2 * m) _ _ _ HDD.out HM.out (by omega)) | refine H.ys ?_ | refine H.yt ?_); intro w H; refine H.nx ?_; (try simp only [Act.put]); refine wpAnyH_done (by kernel_rfl) ?_ _)
    | (go_at_call 104; ((with_reducible refine (cL1 _).mono ?_); rintro e w ⟨rfl, hb⟩; replace H := H.call hb; clear hb))
    | (go_at_call 104; ((with_reducible refine (cL2 _).mono ?_); rintro e w ⟨rfl, hb⟩; replace H := H.call hb; clear hb))
    | (go_at_call 104; ((with_reducible refine (cL3 _).mono ?_); rintro e w ⟨rfl, hb⟩; replace H := H.call hb; clear hb))
    | (go_at_call 46; ((with_reducible refine (cC _).mono ?_); rintro e w ⟨rfl, hb⟩; replace H := H.call hb; clear hb))
    | (go_at_call 122; ((with_reducible refine (cS _).mono ?_); rintro e w ⟨rfl, hb⟩; replace H := H.call hb; clear hb))
    )
        all_goals
          go_roundw
          case rel => exact ⟨m, 2 * (m : Int), rfl, by omega, by go_num, by rw [HQ2.out, HR2.out, E1.out, E2.out]; exact H.sub v6_⟩
          case measure => simp [intOf] <;> omega
open Go.RowKit
theorem sqrtSqrt_no (f m a : Nat) (c1 s1 f1 : Nat) (x1 : Int) (c2 s2 f2 : Nat) (x2 : Int) (c3 s3 f3 : Nat) (x3 : Int) (w : World) (hT : Tab w) (cO : ∀ w g, Tab w → Blk 27 w g (bc a) → Calls Tryz.prog 96 #[.int .u8 f, .int .u8 m, .slice (some ⟨g, 0, none⟩) 1 1] w fun e w' => e = .returned (.tuple #[.agg (tri c1 s1 x1 f1 c2 s2 x2 f2 c3 s3 x3 f3), .bool false]) ∧ Below w.heap.size w w') :
    Calls Tryz.prog 28 #[.int .u8 f, .int .u8 m, BV a] w fun e w' => e = .returned (.tuple #[BV 0, .int .u8 0, .int .i64 2]) ∧ Below w.heap.size w w' := by
  have H := Own.start w
  have HT := Lib.hid hT
  clear hT
  go_enter Tryz.func28, Tryz.ntmps28
  exact walk1
theorem sqrtSqrt_N (f m a : Nat) (c1 s1 f1 : Nat) (x1 : Int) (c2 s2 f2 : Nat) (x2 : Int) (c3 s3 f3 : Nat) (x3 : Int) (w : World) (hT : Tab w) (cO : ∀ w g, Tab w → Blk 27 w g (bc a) → Calls Tryz.prog 96 #[.int .u8 f, .int .u8 m, .slice (some ⟨g, 0, none⟩) 1 1] w fun e w' => e = .returned (.tuple #[.agg (tri c1 s1 x1 f1 c2 s2 x2 f2 c3 s3 x3 f3), .bool true]) ∧ Below w.heap.size w w') (cn1 : CK_ 97 #[PV c1 s1 x1 f1] (.bool true)) (cn : Nat) (fl : Int) (cC : ∀ w g, Blk 103 w g (parts c1 s1 x1 f1) → Calls Tryz.prog 98 #[.int .u8 f, .slice (some ⟨g, 0, none⟩) 1 1] w fun e w' => e = .returned (.tuple #[BV cn, .int .u8 fl, .int .i64 0]) ∧ Below w.heap.size w w') :
    Calls Tryz.prog 28 #[.int .u8 f, .int .u8 m, BV a] w fun e w' => e = .returned (.tuple #[BV cn, .int .u8 fl, .int .i64 0]) ∧ Below w.heap.size w w' := by
  have H := Own.start w
  have HT := Lib.hid hT
  clear hT
  go_enter Tryz.func28, Tryz.ntmps28
  exact walk1
theorem sqrtSqrt_Z (f m a : Nat) (c1 s1 f1 : Nat) (x1 : Int) (c2 s2 f2 : Nat) (x2 : Int) (c3 s3 f3 : Nat) (x3 : Int) (w : World) (hT : Tab w) (cO : ∀ w g, Tab w → Blk 27 w g (bc a) → Calls Tryz.prog 96 #[.int .u8 f, .int .u8 m, .slice (some ⟨g, 0, none⟩) 1 1] w fun e w' => e = .returned (.tuple #[.agg (tri c1 s1 x1 f1 c2 s2 x2 f2 c3 s3 x3 f3), .bool true]) ∧ Below w.heap.size w w') (cn1 : CK_ 97 #[PV c1 s1 x1 f1] (.bool false)) (cz1 : CK_ 99 #[PV c1 s1 x1 f1] (.bool true))  :
    Calls Tryz.prog 28 #[.int .u8 f, .int .u8 m, BV a] w fun e w' => e = .returned (.tuple #[BV a, .int .u8 0, .int .i64 0]) ∧ Below w.heap.size w w' := by
  have H := Own.start w
  have HT := Lib.hid hT
  clear hT
  go_enter Tryz.func28, Tryz.ntmps28
  exact walk1
theorem sqrtSqrt_B (f m a : Nat) (c1 s1 f1 : Nat) (x1 : Int) (c2 s2 f2 : Nat) (x2 : Int) (c3 s3 f3 : Nat) (x3 : Int) (w : World) (hT : Tab w) (cO : ∀ w g, Tab w → Blk 27 w g (bc a) → Calls Tryz.prog 96 #[.int .u8 f, .int .u8 m, .slice (some ⟨g, 0, none⟩) 1 1] w fun e w' => e = .returned (.tuple #[.agg (tri c1 s1 x1 f1 c2 s2 x2 f2 c3 s3 x3 f3), .bool true]) ∧ Below w.heap.size w w') (cn1 : CK_ 97 #[PV c1 s1 x1 f1] (.bool false)) (cz1 : CK_ 99 #[PV c1 s1 x1 f1] (.bool false)) (cb1 : CK_ 100 #[PV c1 s1 x1 f1] (.bool true)) (nn : Nat) (cNN : CK_ 74 #[.int .u8 f] (BV nn)) :
    Calls Tryz.prog 28 #[.int .u8 f, .int .u8 m, BV a] w fun e w' => e = .returned (.tuple #[BV nn, .int .u8 16, .int .i64 0]) ∧ Below w.heap.size w w' := by
  have H := Own.start w
  have HT := Lib.hid hT
  clear hT
  go_enter Tryz.func28, Tryz.ntmps28
  exact walk1
theorem sqrtSqrt_I (f m a : Nat) (c1 s1 f1 : Nat) (x1 : Int) (c2 s2 f2 : Nat) (x2 : Int) (c3 s3 f3 : Nat) (x3 : Int) (w : World) (hT : Tab w) (cO : ∀ w g, Tab w → Blk 27 w g (bc a) → Calls Tryz.prog 96 #[.int .u8 f, .int .u8 m, .slice (some ⟨g, 0, none⟩) 1 1] w fun e w' => e = .returned (.tuple #[.agg (tri c1 s1 x1 f1 c2 s2 x2 f2 c3 s3 x3 f3), .bool true]) ∧ Below w.heap.size w w') (cn1 : CK_ 97 #[PV c1 s1 x1 f1] (.bool false)) (cz1 : CK_ 99 #[PV c1 s1 x1 f1] (.bool false)) (cb1 : CK_ 100 #[PV c1 s1 x1 f1] (.bool false)) (ci1 : CK_ 101 #[PV c1 s1 x1 f1] (.bool true))  :
    Calls Tryz.prog 28 #[.int .u8 f, .int .u8 m, BV a] w fun e w' => e = .returned (.tuple #[BV a, .int .u8 0, .int .i64 0]) ∧ Below w.heap.size w w' := by
  have H := Own.start w
  have HT := Lib.hid hT
  clear hT
  go_enter Tryz.func28, Tryz.ntmps28
  exact walk1
open Go.RowKit
theorem sqrtSqrt_F0 (f m a : Nat) (c1 s1 f1 : Nat) (x1 : Int) (c2 s2 f2 : Nat) (x2 : Int) (c3 s3 f3 : Nat) (x3 : Int) (w : World) (hT : Tab w) (cO : ∀ w g, Tab w → Blk 27 w g (bc a) → Calls Tryz.prog 96 #[.int .u8 f, .int .u8 m, .slice (some ⟨g, 0, none⟩) 1 1] w fun e w' => e = .returned (.tuple #[.agg (tri c1 s1 x1 f1 c2 s2 x2 f2 c3 s3 x3 f3), .bool true]) ∧ Below w.heap.size w w') (cn1 : CK_ 97 #[PV c1 s1 x1 f1] (.bool false)) (cz1 : CK_ 99 #[PV c1 s1 x1 f1] (.bool false)) (cb1 : CK_ 100 #[PV c1 s1 x1 f1] (.bool false)) (ci1 : CK_ 101 #[PV c1 s1 x1 f1] (.bool false)) (hx1 : -40000 ≤ x1) (hx1b : x1 ≤ 40000) (p l1 : Nat) (hp : p ≤ 113) (hl1 : l1 ≤ 384) (ho : (Go.bits .and .i64 (x1 - (max 0 (2 * ((p : Int) + 3) - (l1 : Int)))) 1 == 0) = true) (cP : CK_ 102 #[.int .u8 f] (.int .i64 (p : Nat))) (cl1 : CK_ 103 #[W s1] (.int .i64 (l1 : Nat))) (u q d : Nat) (lo : Bool) (hd : d < top6) (r : Nat) (fl : Int) (er : Int) (cL : CK_ 104 #[W s1, .int .i64 (max 0 (2 * ((p : Int) + 3) - (l1 : Int)))] (.tuple #[W u, .bool lo])) (cQ : CK_ 105 #[W u] (.tuple #[W q, W d])) (cK : CT_ 61 #[.int .u8 f, .int .u8 m, RV false q ((x1 - (max 0 (2 * ((p : Int) + 3) - (l1 : Int)))) / 2) (!decide (d = 0))] (.tuple #[BV r, .int .u8 fl, .int .i64 er]))  :
    Calls Tryz.prog 28 #[.int .u8 f, .int .u8 m, BV a] w fun e w' => e = .returned (.tuple #[BV r, .int .u8 fl, .int .i64 er]) ∧ Below w.heap.size w w' := by
  have H := Own.start w
  have HT := Lib.hid hT
  clear hT
  have v1 : IntKind.i64.wrap ((p : Int) + 3) = (p : Int) + 3 := IntWalk.i64_in _ (by omega)
  have v2 : IntKind.i64.wrap (2 * ((p : Int) + 3)) = 2 * ((p : Int) + 3) := IntWalk.i64_in _ (by omega)
  have v3 : IntKind.i64.wrap (2 * ((p : Int) + 3) - (l1 : Int)) = 2 * ((p : Int) + 3) - (l1 : Int) := IntWalk.i64_in _ (by omega)
  have v5 : IntKind.i64.wrap (x1 - (max 0 (2 * ((p : Int) + 3) - (l1 : Int)))) = x1 - (max 0 (2 * ((p : Int) + 3) - (l1 : Int))) := IntWalk.i64_in _ (by omega)
  have eq1 : ∀ w, (Op.equalIn 10000 63 (.agg (limbs d)) (.agg #[.int .u64 0, .int .u64 0, .int .u64 0, .int .u64 0, .int .u64 0, .int .u64 0])).run Tryz.prog w = .ok (decide (d = 0)) w := fun w => run_equal_zero w d hd
  go_enter Tryz.func28, Tryz.ntmps28
  exact walk2
theorem sqrtSqrt_F1 (f m a : Nat) (c1 s1 f1 : Nat) (x1 : Int) (c2 s2 f2 : Nat) (x2 : Int) (c3 s3 f3 : Nat) (x3 : Int) (w : World) (hT : Tab w) (cO : ∀ w g, Tab w → Blk 27 w g (bc a) → Calls Tryz.prog 96 #[.int .u8 f, .int .u8 m, .slice (some ⟨g, 0, none⟩) 1 1] w fun e w' => e = .returned (.tuple #[.agg (tri c1 s1 x1 f1 c2 s2 x2 f2 c3 s3 x3 f3), .bool true]) ∧ Below w.heap.size w w') (cn1 : CK_ 97 #[PV c1 s1 x1 f1] (.bool false)) (cz1 : CK_ 99 #[PV c1 s1 x1 f1] (.bool false)) (cb1 : CK_ 100 #[PV c1 s1 x1 f1] (.bool false)) (ci1 : CK_ 101 #[PV c1 s1 x1 f1] (.bool false)) (hx1 : -40000 ≤ x1) (hx1b : x1 ≤ 40000) (p l1 : Nat) (hp : p ≤ 113) (hl1 : l1 ≤ 384) (ho : (Go.bits .and .i64 (x1 - (max 0 (2 * ((p : Int) + 3) - (l1 : Int)))) 1 == 0) = false) (cP : CK_ 102 #[.int .u8 f] (.int .i64 (p : Nat))) (cl1 : CK_ 103 #[W s1] (.int .i64 (l1 : Nat))) (u q d : Nat) (lo : Bool) (hd : d < top6) (r : Nat) (fl : Int) (er : Int) (cL : CK_ 104 #[W s1, .int .i64 ((max 0 (2 * ((p : Int) + 3) - (l1 : Int))) + 1)] (.tuple #[W u, .bool lo])) (cQ : CK_ 105 #[W u] (.tuple #[W q, W d])) (cK : CT_ 61 #[.int .u8 f, .int .u8 m, RV false q ((x1 - ((max 0 (2 * ((p : Int) + 3) - (l1 : Int))) + 1)) / 2) (!decide (d = 0))] (.tuple #[BV r, .int .u8 fl, .int .i64 er]))  :
    Calls Tryz.prog 28 #[.int .u8 f, .int .u8 m, BV a] w fun e w' => e = .returned (.tuple #[BV r, .int .u8 fl, .int .i64 er]) ∧ Below w.heap.size w w' := by
  have H := Own.start w
  have HT := Lib.hid hT
  clear hT
  have v1 : IntKind.i64.wrap ((p : Int) + 3) = (p : Int) + 3 := IntWalk.i64_in _ (by omega)
  have v2 : IntKind.i64.wrap (2 * ((p : Int) + 3)) = 2 * ((p : Int) + 3) := IntWalk.i64_in _ (by omega)
  have v3 : IntKind.i64.wrap (2 * ((p : Int) + 3) - (l1 : Int)) = 2 * ((p : Int) + 3) - (l1 : Int) := IntWalk.i64_in _ (by omega)
  have v5 : IntKind.i64.wrap (x1 - ((max 0 (2 * ((p : Int) + 3) - (l1 : Int))) + 1)) = x1 - ((max 0 (2 * ((p : Int) + 3) - (l1 : Int))) + 1) := IntWalk.i64_in _ (by omega)
  have eq1 : ∀ w, (Op.equalIn 10000 63 (.agg (limbs d)) (.agg #[.int .u64 0, .int .u64 0, .int .u64 0, .int .u64 0, .int .u64 0, .int .u64 0])).run Tryz.prog w = .ok (decide (d = 0)) w := fun w => run_equal_zero w d hd
  go_enter Tryz.func28, Tryz.ntmps28
  exact walk2
open Go.RowKit
theorem sqrtOpen_any (f m a : Nat) (hf : f < 256) (hm : m < 256) (ha : a < 2 ^ (64 * 2)) :
    ∃ c1 s1 f1 x1, (unOk f m a = true → c1 = clsN f a ∧ s1 = sigN f a ∧ x1 = xpN f a ∧ f1 = frN f a) ∧
    ∀ (w : World) (g : Nat), Tab w → Blk 27 w g (bc a) → Calls Tryz.prog 96 #[.int .u8 f, .int .u8 m, .slice (some ⟨g, 0, none⟩) 1 1] w fun e w' => e = .returned (.tuple #[.agg (tri c1 s1 x1 f1 0 0 0 0 0 0 0 0), .bool (unOk f m a)]) ∧ Below w.heap.size w w' := by
  have cM := fun w => shapeCheckMode_any m w hm
  have cF := fun w => shapeCheck_any f w hf
  by_cases hm5 : m < 5
  case neg =>
    have e : unOk f m a = false := by unfold unOk; rw [decide_eq_false hm5]; simp
    rw [decide_eq_false hm5] at cM
    rw [e]
    exact ⟨0, 0, 0, 0, (fun h => by cases h), fun w g _ hB => sqrt_open1_mode f m a w g hB cM⟩
  rw [decide_eq_true hm5] at cM
  by_cases hf4 : f < 4
  case neg =>
    have e : unOk f m a = false := by unfold unOk; rw [decide_eq_false hf4]; simp
    rw [decide_eq_false hf4] at cF
    rw [e]
    exact ⟨0, 0, 0, 0, (fun h => by cases h), fun w g _ hB => sqrt_open1_form f m a w g hB cM cF⟩
  rw [decide_eq_true hf4] at cF
  cases ha' : fitsB f a
  · have e : unOk f m a = false := by unfold unOk; rw [ha']; simp
    rw [e]
    exact ⟨0, 0, 0, 0, (fun h => by cases h), fun w g hT hB => sqrt_open1_no0 f m a w hT g hB cM cF (fun w _ => kindUnpack_not f a w ha ha')⟩
  have e : unOk f m a = true := by unfold unOk; rw [ha', decide_eq_true hm5, decide_eq_true hf4]; rfl
  rw [e]
  exact ⟨_, _, _, _, fun _ => ⟨rfl, rfl, rfl, rfl⟩, fun w g hT hB => sqrt_open1_ok f m a w hT g hB cM cF (fun w hT => kindUnpack_yes f a w ha' hT)⟩
theorem i64_and1 (n : Int) : Go.bits .and .i64 n 1 = n % 2 := by
  have h1 : (BitVec.ofInt 64 1).toNat = 2 ^ 1 - 1 := by decide
  have key : (BitVec.ofInt 64 n &&& BitVec.ofInt 64 1).toNat = (n % ((2 ^ 64 : Nat) : Int)).toNat % 2 ^ 1 := by
    rw [BitVec.toNat_and, BitVec.toNat_ofInt, h1, Nat.and_two_pow_sub_one_eq_mod]
  show IntKind.i64.wrap ((BitVec.ofInt 64 n &&& BitVec.ofInt 64 1).toNat : Nat) = n % 2
  rw [key, IntKind.wrap_i64]
  omega
theorem root_len (a n p : Nat) (ha : a ≠ 0) (hn : 2 * ((p : Int) + 3) - lenN a ≤ n) : p + 2 ≤ lenN (isq (a * 2 ^ n)) := by
  have h1 := lenN_ge a ha
  have h3 := lenN_pos a ha
  have h4 : 2 ^ (lenN a - 1) * 2 ^ n ≤ a * 2 ^ n := Nat.mul_le_mul_right _ h1
  rw [← Nat.pow_add] at h4
  have h5 : 2 ^ (p + 2 + (p + 2)) ≤ a * 2 ^ n := Nat.le_trans (Nat.pow_le_pow_right (by decide) (by omega)) h4
  have h6 := isq_gt (a * 2 ^ n)
  generalize isq (a * 2 ^ n) = r at *
  rcases Nat.lt_or_ge (lenN r) (p + 2) with h | h
  · have hr := (lenN_le r (p + 1)).1 (by omega)
    have hr1 : r + 1 ≤ 2 ^ (p + 2) := Nat.le_trans hr (Nat.pow_le_pow_right (by decide) (by omega))
    have h7 : (r + 1) * (r + 1) ≤ 2 ^ (p + 2) * 2 ^ (p + 2) := Nat.mul_le_mul hr1 hr1
    rw [← Nat.pow_add] at h7
    omega
  · exact h
theorem root_lt (a k : Nat) (h : a < 2 ^ k) : isq a < 2 ^ k := by
  have h1 := isq_le a
  rcases Nat.eq_zero_or_pos (isq a) with h0 | h0
  · rw [h0]; exact two_pos k
  · exact Nat.lt_of_le_of_lt (Nat.le_trans (Nat.le_mul_of_pos_left _ h0) h1) h
theorem sqrtSqrt_any (f m a : Nat) (w : World) (hf : f < 256) (hm : m < 256) (ha : a < 2 ^ (64 * 2)) (hT : Tab w) :
    Calls Tryz.prog 28 #[.int .u8 f, .int .u8 m, BV a] w fun e w' => e = .returned (.tuple #[BV (sqrtN f m a).1, .int .u8 ((sqrtN f m a).2.1 : Nat), .int .i64 (sqrtN f m a).2.2]) ∧ Below w.heap.size w w' := by
  obtain ⟨c1, s1, f1, x1, hv, cO⟩ := sqrtOpen_any f m a hf hm ha
  cases hok : unOk f m a
  · have hN : sqrtN f m a = (0, 0, 2) := by unfold sqrtN; rw [hok]; rfl
    rw [hok] at cO
    rw [hN]
    exact sqrtSqrt_no f m a _ _ _ _ _ _ _ _ _ _ _ _ w hT cO
  obtain ⟨rfl, rfl, rfl, rfl⟩ := hv hok
  have hN : sqrtN f m a = ((sqrtR f m a).1, (sqrtR f m a).2, 0) := by unfold sqrtN; rw [hok]; rfl
  rw [hN]
  rw [hok] at cO
  obtain ⟨⟨hf4', hm5'⟩, hfa⟩ : (decide (f < 4) = true ∧ decide (m < 5) = true) ∧ fitsB f a = true := by unfold unOk at hok; simp only [Bool.and_eq_true] at hok; exact hok
  have hf4 := of_decide_eq_true hf4'
  have hm5 := of_decide_eq_true hm5'
  have cb1 := fun w => sqrt_below (clsN f a) (sigN f a) (frN f a) (xpN f a) w
  have cn1 := fun w => sqrt_nan (clsN f a) (sigN f a) (frN f a) (xpN f a) w
  have ci1 := fun w => sqrt_inf (clsN f a) (sigN f a) (frN f a) (xpN f a) w
  have cz1 := fun w => sqrt_nought (clsN f a) (sigN f a) (frN f a) (xpN f a) w
  have cN := fun w => shapeNaN_any f w hf
  have cC := fun w g hB => sqrt_canon f (clsN f a) (sigN f a) (frN f a) (xpN f a) w g hB cN
  unfold sqrtR canonR
  cases h1 : nanB (clsN f a)
  case true =>
    rw [h1] at cn1
    rw [canon_flag] at cC
    rw [Bool.or_self]
    exact sqrtSqrt_N f m a _ _ _ _ 0 0 0 0 0 0 0 0 w hT cO cn1 _ _ cC
  rw [h1] at cn1
  cases z1 : zerB (clsN f a)
  case true => rw [z1] at cz1; exact sqrtSqrt_Z f m a _ _ _ _ 0 0 0 0 0 0 0 0 w hT cO cn1 cz1
  rw [z1] at cz1
  cases b1 : belowN4 (clsN f a)
  case true => rw [b1] at cb1; exact sqrtSqrt_B f m a _ _ _ _ 0 0 0 0 0 0 0 0 w hT cO cn1 cz1 cb1 _ cN
  rw [b1] at cb1
  cases i1 : infB (clsN f a)
  case true => rw [i1] at ci1; exact sqrtSqrt_I f m a _ _ _ _ 0 0 0 0 0 0 0 0 w hT cO cn1 cz1 cb1 ci1
  rw [i1] at ci1
  obtain ⟨g1, g2⟩ := xpN_bound f a hfa
  have qa := sigN_113 f a hfa
  have ta := lt_113_6 _ _ (by decide) qa
  have na := sig_ne f a hfa h1 i1 z1
  have la := (lenN_le _ 113).2 qa
  have la0 := lenN_pos _ na
  have hp := pF_113 f
  obtain ⟨N0, hN0⟩ : ∃ N0 : Nat, sqrSh0 f a = N0 := ⟨_, rfl⟩
  have hmax : max 0 (2 * ((pF f : Int) + 3) - (lenN (sigN f a) : Int)) = (N0 : Int) := by rw [← hN0]; unfold sqrSh0; omega
  have hand : (Go.bits .and .i64 (xpN f a - (N0 : Int)) 1 == 0) = decide ((xpN f a - (N0 : Int)) % 2 = 0) := by
    rw [i64_and1]
    by_cases h : (xpN f a - (N0 : Int)) % 2 = 0
    · rw [h, decide_eq_true rfl]; rfl
    · rw [decide_eq_false h]; exact beq_eq_false_iff_ne.2 h
  obtain ⟨n, hn⟩ : ∃ n, sqrSh f a = n := ⟨_, rfl⟩
  have hnv : n = if (xpN f a - (N0 : Int)) % 2 = 0 then N0 else N0 + 1 := by rw [← hn]; unfold sqrSh; rw [hN0]
  have hnb : n ≤ 232 ∧ 2 * ((pF f : Int) + 3) - lenN (sigN f a) ≤ n := by split at hnv <;> omega
  have hx := Lib.hid (mul_pow_lt (sigN f a) 113 n qa)
  have hu6 : sigN f a * 2 ^ n < top6 := lt_113_6 _ (113 + n) (by omega) hx.out
  have hln := root_len (sigN f a) n (pF f) na hnb.2
  have hr6 : isq (sigN f a * 2 ^ n) < top6 := lt_113_6 _ (113 + n) (by omega) (root_lt _ _ hx.out)
  have hd6 : sigN f a * 2 ^ n - isq (sigN f a * 2 ^ n) * isq (sigN f a * 2 ^ n) < top6 := Nat.lt_of_le_of_lt (Nat.sub_le _ _) hu6
  have hq0 : isq (sigN f a * 2 ^ n) ≠ 0 := by intro h; rw [h, lenN_zero] at hln; omega
  have cQ := fun w => quotSqrt_any (sigN f a * 2 ^ n) w hu6
  have cK := fun e w hT => roundPack_any f m (isq (sigN f a * 2 ^ n)) e false (!decide (sigN f a * 2 ^ n - isq (sigN f a * 2 ^ n) * isq (sigN f a * 2 ^ n) = 0)) w hT hf hm hr6
  have hPm : ∀ e mo, -1048576 ≤ e → e ≤ 1048576 → packN f m false (isq (sigN f a * 2 ^ n)) e mo = ((packB f m false (isq (sigN f a * 2 ^ n)) e mo).1, (packB f m false (isq (sigN f a * 2 ^ n)) e mo).2, 0) := by
    intro e mo e1 e2
    unfold packN packOk
    rw [decide_eq_true hf4, decide_eq_true hm5, decide_eq_true e1, decide_eq_true e2, decide_eq_false (show ¬ lenN (isq (sigN f a * 2 ^ n)) < pF f + 2 by omega), if_neg hq0]; simp
  rw [hn]
  have cK := cK ((xpN f a - (n : Int)) / 2)
  rw [hPm _ _ (by omega) (by omega)] at cK
  simp only [Bool.false_eq_true, if_false]
  by_cases ho : (xpN f a - (N0 : Int)) % 2 = 0
  · rw [if_pos ho] at hnv
    rw [decide_eq_true ho] at hand
    have cL := fun w => wideLeft_n (sigN f a) (max 0 (2 * ((pF f : Int) + 3) - (lenN (sigN f a) : Int))) w ta
    rw [show (max 0 (2 * ((pF f : Int) + 3) - (lenN (sigN f a) : Int))).toNat = n by omega] at cL
    exact sqrtSqrt_F0 f m a _ _ _ _ 0 0 0 0 0 0 0 0 w hT cO cn1 cz1 cb1 ci1 g1 g2 (pF f) (lenN (sigN f a)) hp (by omega) (by rw [hmax]; exact hand) (fun w => shapePrecision_any f w hf) (fun w => wideLen_any _ w ta) _ _ _ _ hd6 _ _ _ cL cQ (by rw [hmax, ← hnv]; exact cK)
  · rw [if_neg ho] at hnv
    rw [decide_eq_false ho] at hand
    have cL := fun w => wideLeft_n (sigN f a) (max 0 (2 * ((pF f : Int) + 3) - (lenN (sigN f a) : Int)) + 1) w ta
    rw [show (max 0 (2 * ((pF f : Int) + 3) - (lenN (sigN f a) : Int)) + 1).toNat = n by omega] at cL
    exact sqrtSqrt_F1 f m a _ _ _ _ 0 0 0 0 0 0 0 0 w hT cO cn1 cz1 cb1 ci1 g1 g2 (pF f) (lenN (sigN f a)) hp (by omega) (by rw [hmax]; exact hand) (fun w => shapePrecision_any f w hf) (fun w => wideLen_any _ w ta) _ _ _ _ hd6 _ _ _ cL cQ (by rw [hmax, show (N0 : Int) + 1 = (n : Int) by omega]; exact cK)
open Go.RowKit Go.Proofs.YtecdpjhifmlahaaGreatDoorW.PrintWords Go.Proofs.YtecdpjhifmlahaaGreatDoor.PDivQuotients
theorem r14Sqrt_no (f m a z : Nat) (fl : Int) (na : Bool) (n1 d1 : ByteArray) (e1 er : Int) (w : World) (cT : ∀ w g, Blk 27 w g (bc a) → Calls Tryz.prog 93 #[.int .u8 f, .int .u8 m, .slice (some ⟨g, 0, none⟩) 1 1] w fun e w' => e = .returned (.bool false) ∧ Below w.heap.size w w')  :
    Calls Tryz.prog 29 #[.int .u8 f, .int .u8 m, BV a] w fun e w' => e = .returned (.tuple #[BV 0, .int .u8 0, .int .i64 2]) ∧ Below w.heap.size w w' := by
  have H := Own.start w
  go_enter Tryz.func29, Tryz.ntmps29
  exact walk2
theorem r14Sqrt_n (f m a z : Nat) (fl : Int) (na : Bool) (n1 d1 : ByteArray) (e1 er : Int) (w : World) (cT : ∀ w g, Blk 27 w g (bc a) → Calls Tryz.prog 93 #[.int .u8 f, .int .u8 m, .slice (some ⟨g, 0, none⟩) 1 1] w fun e w' => e = .returned (.bool true) ∧ Below w.heap.size w w') (cNa : CK_ 51 #[.int .u8 f, BV a] (.bool true)) (cC : ∀ w g, Blk 27 w g (bc a) → Calls Tryz.prog 94 #[.int .u8 f, .slice (some ⟨g, 0, none⟩) 1 1] w fun e w' => e = .returned (.tuple #[BV z, .int .u8 fl]) ∧ Below w.heap.size w w')  :
    Calls Tryz.prog 29 #[.int .u8 f, .int .u8 m, BV a] w fun e w' => e = .returned (.tuple #[BV z, .int .u8 fl, .int .i64 0]) ∧ Below w.heap.size w w' := by
  have H := Own.start w
  go_enter Tryz.func29, Tryz.ntmps29
  exact walk2
theorem r14Sqrt_z (f m a z : Nat) (fl : Int) (na : Bool) (n1 d1 : ByteArray) (e1 er : Int) (w : World) (cT : ∀ w g, Blk 27 w g (bc a) → Calls Tryz.prog 93 #[.int .u8 f, .int .u8 m, .slice (some ⟨g, 0, none⟩) 1 1] w fun e w' => e = .returned (.bool true) ∧ Below w.heap.size w w') (cNa : CK_ 51 #[.int .u8 f, BV a] (.bool false)) (cZa : CK_ 80 #[.int .u8 f, BV a] (.bool true))  :
    Calls Tryz.prog 29 #[.int .u8 f, .int .u8 m, BV a] w fun e w' => e = .returned (.tuple #[BV a, .int .u8 0, .int .i64 0]) ∧ Below w.heap.size w w' := by
  have H := Own.start w
  go_enter Tryz.func29, Tryz.ntmps29
  exact walk2
theorem r14Sqrt_b (f m a z : Nat) (fl : Int) (na : Bool) (n1 d1 : ByteArray) (e1 er : Int) (w : World) (cT : ∀ w g, Blk 27 w g (bc a) → Calls Tryz.prog 93 #[.int .u8 f, .int .u8 m, .slice (some ⟨g, 0, none⟩) 1 1] w fun e w' => e = .returned (.bool true) ∧ Below w.heap.size w w') (cNa : CK_ 51 #[.int .u8 f, BV a] (.bool false)) (cZa : CK_ 80 #[.int .u8 f, BV a] (.bool false)) (cSa : CK_ 50 #[.int .u8 f, BV a] (.bool true)) (cN : CK_ 78 #[.int .u8 f] (BV z)) :
    Calls Tryz.prog 29 #[.int .u8 f, .int .u8 m, BV a] w fun e w' => e = .returned (.tuple #[BV z, .int .u8 16, .int .i64 0]) ∧ Below w.heap.size w w' := by
  have H := Own.start w
  go_enter Tryz.func29, Tryz.ntmps29
  exact walk2
theorem r14Sqrt_i (f m a z : Nat) (fl : Int) (na : Bool) (n1 d1 : ByteArray) (e1 er : Int) (w : World) (cT : ∀ w g, Blk 27 w g (bc a) → Calls Tryz.prog 93 #[.int .u8 f, .int .u8 m, .slice (some ⟨g, 0, none⟩) 1 1] w fun e w' => e = .returned (.bool true) ∧ Below w.heap.size w w') (cNa : CK_ 51 #[.int .u8 f, BV a] (.bool false)) (cZa : CK_ 80 #[.int .u8 f, BV a] (.bool false)) (cSa : CK_ 50 #[.int .u8 f, BV a] (.bool false)) (cIa : CK_ 53 #[.int .u8 f, BV a] (.bool true))  :
    Calls Tryz.prog 29 #[.int .u8 f, .int .u8 m, BV a] w fun e w' => e = .returned (.tuple #[BV a, .int .u8 0, .int .i64 0]) ∧ Below w.heap.size w w' := by
  have H := Own.start w
  go_enter Tryz.func29, Tryz.ntmps29
  exact walk2
theorem r14Sqrt_F (f m a z : Nat) (fl : Int) (na : Bool) (n1 d1 : ByteArray) (e1 er : Int) (w : World) (cT : ∀ w g, Blk 27 w g (bc a) → Calls Tryz.prog 93 #[.int .u8 f, .int .u8 m, .slice (some ⟨g, 0, none⟩) 1 1] w fun e w' => e = .returned (.bool true) ∧ Below w.heap.size w w') (cNa : CK_ 51 #[.int .u8 f, BV a] (.bool false)) (cZa : CK_ 80 #[.int .u8 f, BV a] (.bool false)) (cSa : CK_ 50 #[.int .u8 f, BV a] (.bool false)) (cIa : CK_ 53 #[.int .u8 f, BV a] (.bool false)) (cVa : CK_ 82 #[.int .u8 f, BV a] (.tuple #[.agg (exC na n1 d1 e1), .int .i64 0])) (cR : CK_ 106 #[.int .u8 f, .int .u8 m, .agg (exC na n1 d1 e1)] (.tuple #[BV z, .int .u8 fl, .int .i64 er])) :
    Calls Tryz.prog 29 #[.int .u8 f, .int .u8 m, BV a] w fun e w' => e = .returned (.tuple #[BV z, .int .u8 fl, .int .i64 er]) ∧ Below w.heap.size w w' := by
  have H := Own.start w
  go_enter Tryz.func29, Tryz.ntmps29
  exact walk2
theorem root_pack (f m a : Nat) (hf : f < 4) (na : sigN f a ≠ 0) : packB f m false (isq (sigN f a * 2 ^ sqrSh f a)) ((xpN f a - sqrSh f a) / 2) (!decide (sigN f a * 2 ^ sqrSh f a - isq (sigN f a * 2 ^ sqrSh f a) * isq (sigN f a * 2 ^ sqrSh f a) = 0)) = rndQ f m (sigN f a) 1 (xpN f a) := by
  obtain ⟨N0, hN0⟩ : ∃ N0 : Nat, sqrSh0 f a = N0 := ⟨_, rfl⟩
  obtain ⟨n, hn⟩ : ∃ n, sqrSh f a = n := ⟨_, rfl⟩
  have hnv : n = if (xpN f a - (N0 : Int)) % 2 = 0 then N0 else N0 + 1 := by rw [← hn]; unfold sqrSh; rw [hN0]
  have hmax : max 0 (2 * ((pF f : Int) + 3) - (lenN (sigN f a) : Int)) = (N0 : Int) := by rw [← hN0]; unfold sqrSh0; omega
  have hpar : (xpN f a - (n : Int)) % 2 = 0 ∧ 2 * ((pF f : Int) + 3) - lenN (sigN f a) ≤ n := by split at hnv <;> omega
  have hln := root_len (sigN f a) n (pF f) na hpar.2
  have key := rndQ_digits f m (sigN f a) (xpN f a) ((xpN f a - (n : Int)) / 2) (sigN f a * 2 ^ n) hf na (by congr 2; omega) (by omega) (Or.inr hln)
  have hsq := isq_le (sigN f a * 2 ^ n)
  have hst : decide (sigN f a * 2 ^ n - isq (sigN f a * 2 ^ n) * isq (sigN f a * 2 ^ n) = 0) = decide (isq (sigN f a * 2 ^ n) * isq (sigN f a * 2 ^ n) = sigN f a * 2 ^ n) := by
    generalize isq (sigN f a * 2 ^ n) * isq (sigN f a * 2 ^ n) = X at *
    rw [decide_eq_decide]; omega
  rw [hn, hst, key]
theorem r14Sqrt_any (f m a : Nat) (w : World) (ha : a < 2 ^ (64 * 2)) :
    Calls Tryz.prog 29 #[.int .u8 f, .int .u8 m, BV a] w fun e w' => e = .returned (.tuple #[BV (sqrtN f m a).1, .int .u8 ((sqrtN f m a).2.1 : Nat), .int .i64 (sqrtN f m a).2.2]) ∧ Below w.heap.size w w' := by
  have cT := fun w g hB => r11Fits1_any f m a w ha g hB
  cases ok : unOk f m a
  case false =>
    have ok' := ok
    unfold unOk at ok'
    rw [ok'] at cT
    have e1 : sqrtN f m a = (0, 0, 2) := by unfold sqrtN; rw [ok]; rfl
    rw [e1]
    exact r14Sqrt_no f m a 0 0 false ⟨#[]⟩ ⟨#[]⟩ 0 0 w cT
  have ok' := ok
  unfold unOk at ok'
  rw [ok'] at cT
  have e1 : sqrtN f m a = ((sqrtR f m a).1, (sqrtR f m a).2, 0) := by unfold sqrtN; rw [ok]; rfl
  rw [e1]
  simp only [Bool.and_eq_true, decide_eq_true_iff] at ok'
  obtain ⟨⟨hf, hm⟩, fa⟩ := ok'
  have cNa := fun w => r8IsNaN_any f a w hf ha
  have cC := fun w g hB => r11Canon1 f (nanN f) a (decide (clsN f a = 8)) w g hB (fun w => r7NaN_any f w hf) (fun w => r8IsSig_any f a w hf ha)
  unfold sqrtR
  cases h1 : nanB (clsN f a)
  case true =>
    rw [h1] at cNa
    rw [if_pos rfl]
    unfold canonR
    refine (r14Sqrt_n f m a _ _ false ⟨#[]⟩ ⟨#[]⟩ 0 0 w cT cNa cC).mono fun e w' h => ⟨h.1.trans ?_, h.2⟩
    cases decide (clsN f a = 8) <;> rfl
  rw [h1] at cNa
  rw [if_neg (by decide)]
  have cZa := fun w => r8IsZero_nt f a w hf ha
  cases z1 : zerB (clsN f a)
  case true =>
    rw [z1] at cZa
    rw [if_pos rfl]
    exact r14Sqrt_z f m a 0 0 false ⟨#[]⟩ ⟨#[]⟩ 0 0 w cT cNa cZa
  rw [z1] at cZa
  rw [if_neg (by decide)]
  have n8 : ¬ 8 ≤ clsN f a := by unfold nanB at h1; simpa using h1
  rw [below_neg f a n8]
  have cSa := fun w => r8Sign_any f a w ha
  simp only [fa, Bool.true_and] at cSa
  cases b1 : negN f a
  case true =>
    rw [b1] at cSa
    rw [if_pos rfl]
    exact r14Sqrt_b f m a _ 0 false ⟨#[]⟩ ⟨#[]⟩ 0 0 w cT cNa cZa cSa (fun w => r7NaN_any f w hf)
  rw [b1] at cSa
  rw [if_neg (by decide)]
  have cIa := fun w => r8IsInf_nt f a w hf ha
  cases i1 : infB (clsN f a)
  case true =>
    rw [i1] at cIa
    rw [if_pos rfl]
    exact r14Sqrt_i f m a 0 0 false ⟨#[]⟩ ⟨#[]⟩ 0 0 w cT cNa cZa cSa cIa
  rw [i1] at cIa
  rw [if_neg (by decide)]
  have na := sig_ne f a fa h1 i1 z1
  have cVa := fun w => r8ValueF_any f a w fa h1 i1 na
  obtain ⟨v1, v2, v3, v4⟩ := oneB f a fa na
  obtain ⟨-, v5, -⟩ := sO_split f a na
  have hO : OneF (sO f a) 1 (xO f a) := ⟨v1, v5, by decide, Nat.gcd_one_right _, by omega, by decide, by omega, by omega⟩
  have cR := fun w => r9Root_any f m _ _ _ w hf hm hO
  have hro : rndQ f m (sO f a) 1 (xO f a) = rndQ f m (sigN f a) 1 (xpN f a) := by
    have h := rndQ_low f m (sO f a) 1 (lowZ (sigN f a)) 0 (xpN f a) v1 (by decide)
    rw [← (sO_split f a na).1, Nat.pow_zero, Nat.one_mul] at h
    rw [h]; congr 1; unfold xO; omega
  rw [hro] at cR
  rw [root_pack f m a hf na]
  rw [b1] at cVa
  exact r14Sqrt_F f m a _ _ false _ _ _ _ w cT cNa cZa cSa cIa cVa cR
open Go.RowKit Go.Proofs.YtecdpjhifmlahaaGreatDoorW.PrintWords Go.Proofs.YtecdpjhifmlahaaGreatDoor.PDivQuotients
theorem root_quiet (f m a : Nat) (hf : f < 4) (fa : fitsB f a = true) (hc : Fin0 f a) (na : sigN f a ≠ 0) : (rndQ f m (sigN f a) 1 (xpN f a)).2 = 0 ∨ (rndQ f m (sigN f a) 1 (xpN f a)).2 = 1 := by
  have hd : 0 < 1 := by decide
  obtain ⟨hcan, -⟩ := can_of f a fa hc
  have hl : lenN (sigN f a) ≤ pF f := (lenN_le _ _).2 hcan.lt
  have hl1 := lenN_pos _ na
  have hlo := hcan.ge
  have hhi := hcan.le
  obtain ⟨h1, h2, h3, h4, h5, h6, h7, h8⟩ := formK f hf
  have hfe : eF f ≥ pF f + 2 := by
    have : f = 0 ∨ f = 1 ∨ f = 2 ∨ f = 3 := by omega
    rcases this with rfl | rfl | rfl | rfl <;> decide
  rw [rndQ_src f m _ 1 _ hd, top_one_den _ na]
  have hT := root_top _ _ (rat_top (sigN f a) 1 (xpN f a) na hd)
  rw [top_one_den _ na] at hT
  obtain ⟨E, hE⟩ : ∃ E : Int, ((lenN (sigN f a) : Int) - 1 + xpN f a) / 2 = E := ⟨_, rfl⟩
  rw [hE] at hT ⊢
  have hE1 : eminI f ≤ E := by omega
  have hE2 : E + 1 ≤ (eF f : Int) := by omega
  obtain ⟨g1, g2, g3⟩ := grid_bounds _ f m false E hf hT
  have hA : atN f E = E - pF f + 1 := by unfold atN; omega
  have hfl : (lenN ((rootS (ratS (sigN f a) 1 (xpN f a) hd)).fl (atN f E)) : Int) = pF f := by rw [hT.low _ (by omega), hA]; omega
  have hg0 : (gridR (rootS (ratS (sigN f a) 1 (xpN f a) hd)) m false (atN f E)).1 ≠ 0 := by
    unfold gridR
    intro h
    have h0 : (rootS (ratS (sigN f a) 1 (xpN f a) hd)).fl (atN f E) = 0 := by simp only [] at h; omega
    rw [h0] at hfl
    have : lenN 0 = 0 := by decide
    omega
  have hgl : lenN (gridR (rootS (ratS (sigN f a) 1 (xpN f a) hd)) m false (atN f E)).1 ≤ pF f + 1 := (lenN_le _ _).2 (Nat.lt_of_le_of_lt g1 (Nat.pow_lt_pow_right (by decide) (by omega)))
  unfold deliverR
  rw [if_neg (by omega), if_neg hg0, if_neg (by omega)]
  have ht : tinyR (rootS (ratS (sigN f a) 1 (xpN f a) hd)) f m false E = false := by unfold tinyR; rw [if_pos hE1]
  rw [ht]
  cases (gridR (rootS (ratS (sigN f a) 1 (xpN f a) hd)) m false (atN f E)).2 <;> simp
theorem sqrt_flags (f m a : Nat) : (sqrtN f m a).2.1 = 0 ∨ (sqrtN f m a).2.1 = 1 ∨ (sqrtN f m a).2.1 = 16 := by
  unfold sqrtN
  cases ok : unOk f m a
  · exact Or.inl rfl
  have ok' := ok
  unfold unOk at ok'
  simp only [Bool.and_eq_true, decide_eq_true_iff] at ok'
  obtain ⟨⟨hf, hm⟩, fa⟩ := ok'
  show (sqrtR f m a).2 = 0 ∨ (sqrtR f m a).2 = 1 ∨ (sqrtR f m a).2 = 16
  unfold sqrtR
  cases h1 : nanB (clsN f a)
  case true =>
    rw [if_pos rfl]; unfold canonR
    cases (decide (clsN f a = 8) || decide (clsN f a = 8)) <;> simp
  rw [if_neg (by decide)]
  cases z1 : zerB (clsN f a)
  case true => rw [if_pos rfl]; exact Or.inl rfl
  rw [if_neg (by decide)]
  cases b1 : belowN4 (clsN f a)
  case true => rw [if_pos rfl]; exact Or.inr (Or.inr rfl)
  rw [if_neg (by decide)]
  cases i1 : infB (clsN f a)
  case true => rw [if_pos rfl]; exact Or.inl rfl
  rw [if_neg (by decide)]
  have na := sig_ne f a fa h1 i1 z1
  have hc : Fin0 f a := by
    rcases cls_sort f a with h | h | h | h
    · unfold nanB at h1; simp at h1; omega
    · unfold infB at i1; rcases h with h | h <;> rw [h] at i1 <;> simp at i1
    · unfold zerB at z1; rcases h with h | h <;> rw [h] at z1 <;> simp at z1
    · exact h
  rw [root_pack f m a hf na]
  rcases root_quiet f m a hf fa hc na with h | h
  · exact Or.inl h
  · exact Or.inr (Or.inl h)
theorem flags_mask (x : Nat) (h : x = 0 ∨ x = 1 ∨ x = 16) : Go.bits .and .u8 (x : Int) 6 = 0 := by
  rcases h with rfl | rfl | rfl <;> decide +kernel
theorem sqrtRoots_alive (w : World) (hT : Tab w) (cA : CT_ 28 #[.int .u8 2, .int .u8 0, .agg #[.int .u64 0, .int .u64 17408]] (.tuple #[.agg #[.int .u64 0, .int .u64 16384], .int .u8 0, .int .i64 0])) :
    Calls Tryz.prog 30 #[] w fun e w' => e = .returned (.bool true) ∧ Below w.heap.size w w' := by
  have H := Own.start w
  have HT := Lib.hid hT
  clear hT
  go_enter Tryz.func30, Tryz.ntmps30
  exact walk3
theorem sqrtRoots_two : sqrtN 2 0 17408 = (16384, 0, 0) := by
  have hc : clsN 2 17408 = 6 := by decide +kernel
  have hs : sigN 2 17408 = 1024 := by decide +kernel
  have hx : xpN 2 17408 = -8 := by decide +kernel
  have hsh : sqrSh 2 17408 = 18 := by unfold sqrSh sqrSh0; rw [hs, hx]; decide +kernel
  have hi : isq (1024 * 2 ^ 18) = 16384 := isq_unique _ _ (by decide) (by decide)
  have hok : unOk 2 0 17408 = true := by decide +kernel
  unfold sqrtN sqrtR
  rw [hok, hc, hs, hx, hsh, hi]
  decide +kernel
theorem sqrtRoots_alive_any (w : World) (hT : Tab w) : Calls Tryz.prog 30 #[] w fun e w' => e = .returned (.bool true) ∧ Below w.heap.size w w' := by
  refine sqrtRoots_alive w hT fun w hT => ?_
  have := sqrtSqrt_any 2 0 17408 w (by decide) (by decide) (by decide) hT
  rw [show sqrtN 2 0 17408 = (16384, 0, 0) from sqrtRoots_two] at this
  exact this
set_option maxHeartbeats 3200000 in
theorem sqrtRoots_w (f m a x : Nat) (fl e0 : Int) (w : World) (hfl : (Go.bits .and .u8 fl 6 == 0) = true) (hfl' : Go.bits .and .u8 fl 6 = 0) (hT : Tab w) (cA : CT_ 28 #[.int .u8 f, .int .u8 m, BV a] (.tuple #[BV x, .int .u8 fl, .int .i64 e0])) (cR : CK_ 29 #[.int .u8 f, .int .u8 m, BV a] (.tuple #[BV x, .int .u8 fl, .int .i64 e0]))  :
    Calls Tryz.prog 8 #[.int .u8 f, .int .u8 m, BV a] w fun e w' => e = .returned (.bool true) ∧ Below w.heap.size w w' := by
  have H := Own.start w
  have HT := Lib.hid hT
  clear hT
  go_enter Tryz.func8, Tryz.ntmps8
  exact walk3
theorem sqrtRoots_any (f m a : Nat) (w : World) (hf : f < 256) (hm : m < 256) (ha : a < 2 ^ (64 * 2)) (hT : Tab w) :
    Calls Tryz.prog 8 #[.int .u8 f, .int .u8 m, BV a] w fun e w' => e = .returned (.bool true) ∧ Below w.heap.size w w' :=
  sqrtRoots_w f m a _ _ _ w (by rw [flags_mask _ (sqrt_flags f m a)]; rfl) (flags_mask _ (sqrt_flags f m a)) hT (fun w hT => sqrtSqrt_any f m a w hf hm ha hT) (fun w => r14Sqrt_any f m a w ha)
open Go.ChangeShapes Go.WideShapes Go.ChangeAt Go.RowKit
theorem own : ownKnob Tryz.prog.godebug = none := by kernel_rfl
theorem laidOut : laidOutB Tryz.prog = true := by kernel_rfl
def laidL : List (String × DataW Unit) := [("math/bits.deBruijn64tab", Rows.laid_math_bits_deBruijn64tab)]
theorem gTab : Tryz.prog.globalNamed "math/bits.deBruijn64tab" = some 0 := by kernel_rfl
theorem tTab : (Tryz.prog.globals[0]?).map (·.type) = some 216 := by kernel_rfl
theorem ren1 : Tryz.lays29_ren.g 1 = 0 := rfl
theorem door_met (os : Os) (args : Array Value) : laidMetH Tryz.prog laidL ((World.doorLaid Tryz.prog 400 os).forCall (fun _ _ => 0) ⟨#[], args, []⟩).memory :=
  laidMetH_of_parts3 (fuel := 8) (laidMet_of_run' 8 (by kernel_rfl) (by kernel_rfl)) (by kernel_rfl) (by kernel_rfl)
theorem datum_map {H : Type} : (Rows.laid_math_bits_deBruijn64tab : DataW H) = .agg (Lib.deBruijn64tab.map fun x => .lit (.int .u8 (x : Nat))) := rfl
theorem tab_len : Lib.deBruijn64tab.length = 64 := by decide
theorem tab_of_laid {W : World} (h : laidMetH Tryz.prog laidL W) : Tab W := by
  rw [MakeChecks.laidMetH_plain _ _ _ (by kernel_rfl)] at h
  obtain ⟨ps, ⟨g0, t0, cs0, f0, p0, q0, hg0, ht0, hv0, hd0, _, _⟩, _, _⟩ := h
  obtain rfl := Option.some.inj (gTab.symm.trans hg0)
  obtain rfl := Option.some.inj (tTab.symm.trans ht0)
  obtain ⟨xs, m1, rfl, hx1, hlen, hn, hel⟩ := DataW.trod_array Tryz.underlying216 hd0
  have c1 : Tryz.prog.cellsOf 5 = 1 := by kernel_rfl
  rw [c1] at hel
  simp only [Prod.mk.injEq, datum_map, DataW.agg.injEq] at hx1
  intro j hj
  rw [ren1]
  have hj64 : j < 64 := by rw [tab_len] at hj; exact hj
  have hcell := World.var?_cell hg0 hv0 j
  rw [hcell]
  have h1 := hel j hj64
  have hxj : xs[j]? = some xs[j] := List.getElem?_eq_getElem (by omega)
  rw [hxj, Nat.mul_one] at h1
  obtain ⟨n, e1, e2, _⟩ := DataW.trod_int Tryz.underlying5 h1
  have hm : (xs.map (·.1))[j]? = some (.lit (.int .u8 n)) := by rw [List.getElem?_map, hxj, e2]; rfl
  rw [← hx1.1, List.getElem?_map, List.getElem?_eq_getElem hj] at hm
  simp only [Option.map_some, Option.some.injEq, DataW.lit.injEq, Lit.int.injEq, true_and] at hm
  have hget : cs0[j]? = some (.int .u8 n) := by
    have h2 : ((cs0.toList.drop j).take 1)[0]? = some (.int .u8 n) := by rw [e1]; rfl
    rw [List.getElem?_take_of_lt (by decide), List.getElem?_drop, Nat.add_zero, Array.getElem?_toList] at h2
    exact h2
  rw [hget, ← hm, List.getD_eq_getElem?_getD, List.getElem?_eq_getElem hj]; rfl
theorem two_words (x y : Nat) (hx : x < 18446744073709551616) (hy : y < 18446744073709551616) : ∃ b : Nat, Value.agg #[.int .u64 (x : Nat), .int .u64 (y : Nat)] = BV b ∧ b < 2 ^ (64 * 2) := by
  refine ⟨x * 18446744073709551616 + y, ?_, by omega⟩
  have h1 : limb (x * 18446744073709551616 + y) 1 = (x : Nat) := by
    show ((limbN (x * 18446744073709551616 + y) 1 : Nat) : Int) = x
    unfold limbN; rw [show 2 ^ (64 * 1) = 18446744073709551616 from rfl]; omega
  have h0 : limb (x * 18446744073709551616 + y) 0 = (y : Nat) := by
    show ((limbN (x * 18446744073709551616 + y) 0 : Nat) : Int) = y
    unfold limbN; rw [show 2 ^ (64 * 0) = 1 from rfl]; omega
  show Value.agg #[_, _] = .agg #[.int .u64 (limb _ 1), .int .u64 (limb _ 0)]
  rw [h1, h0]
theorem bits_cells : Tryz.prog.cellsOf 27 = 2 := by kernel_rfl
/-- An argument of 128 bits is the encoding of a number. -/
theorem open_bits {H : Type} {enc : TypeId × Value → H} {W : World} {r : Reach} {base b0 : Nat} {spare : Nat → Bool} {held : Bool} {v : Value} {d : DataW H} {p : List MemPlace}
    (hv : Value.okWide Tryz.prog W r b0 27 v) (h : DataW.Trod enc Tryz.prog W base spare held 27 v d p) : ∃ b : Nat, v = BV b ∧ b < 2 ^ (64 * 2) := by
  obtain ⟨c0, c1, y0, y1, m, rfl, rfl, rfl, hy0, hy1⟩ := Go.Joins.open_agg2 Tryz.underlying27 (by kernel_rfl) bits_cells hv h
  obtain ⟨x, e0, rfl, wx⟩ := DataW.trod_int Tryz.underlying25 hy0
  obtain ⟨y, e1, rfl, wy⟩ := DataW.trod_int Tryz.underlying25 hy1
  simp at e0 e1
  subst e0 e1
  have bx := bounds_u64 wx
  have bY := bounds_u64 wy
  obtain ⟨x, rfl⟩ := Int.eq_ofNat_of_zero_le bx.1
  obtain ⟨y, rfl⟩ := Int.eq_ofNat_of_zero_le bY.1
  exact two_words x y (by omega) (by omega)
theorem nat_u8 {x : Int} (h : (Lit.int .u8 x).wf = true) : ∃ n : Nat, x = n ∧ n < 256 := by
  have b := bounds_u8 h
  obtain ⟨n, rfl⟩ := Int.eq_ofNat_of_zero_le b.1
  exact ⟨n, rfl, by omega⟩
end Go.Proofs.YtecdpjhifmlahaaGreatDoor
