/- Part 6 of what is proved: Pkj, Pd, Ps, Lp, Lm, Pa, Kfs, Bld, Wsub, Wcmp, Qdv, Qsq. -/
import Derived.Deep.RegionWith
import Derived.Deep.RegionHeld3
import Derived.Deep.QuietTactic
import Derived.BigQuiet
import Derived.StillTailTactics
import Derived.Outline
import Derived.Test.YtjgonofkklpgaaaDoorDo0
import Derived.Test.YtjgonofkklpgaaaDoorDo1
import Derived.Test.YtjgonofkklpgaaaDoorDo2
import Derived.Test.YtjgonofkklpgaaaDoorDo4
import Derived.Test.YtjgonofkklpgaaaDoorDo5
set_option linter.unusedSimpArgs false
set_option linter.unusedVariables false
set_option linter.unnecessarySimpa false
namespace Go.Proofs.YtjgonofkklpgaaaDoor
open Go.RowKit
theorem roundTiny_any (f m s : Nat) (e top : Int) (neg mo : Bool) (w : World) (hT : Tab w) (hf : f < 4) (hm : m < 5) (hs : s < top6) (hs0 : s ≠ 0) (h1 : -1048576 ≤ e) (h2 : e ≤ 1048576) (ht : (lenN s : Int) - 1 + e = top) :
    Calls Tryd.prog 141 #[.int .u8 f, .int .u8 m, RV neg s e mo, .int .i64 top] w fun e' w' => e' = .returned (.bool (tinyB f m neg s e mo top)) ∧ Below w.heap.size w w' := by
  have hK := formK f hf
  have hp := pF_113 f
  have hl := lenN_pos s hs0
  have hl4 : lenN s ≤ 384 := (lenN_le s 384).2 (by rw [show 384 = 64 * 6 from rfl, ← top6.eq_1]; exact hs)
  have cE := fun w => shapeEmin_any f w (by omega)
  have cP := fun w => shapePrecision_any f w (by omega)
  unfold tinyB
  by_cases hq : top = eminI f - 1
  · rw [if_pos hq]
    have hk := gridN_le m s (pF f) neg mo e (top - pF f + 1) (by omega)
    have cG := fun w hT => roundGrid_any m s e (top - pF f + 1) neg mo w hT (by omega) hs (by omega) (by omega) (by omega) (by omega) (by omega)
    have cK := fun w => wideLen_any (gridN m neg s e mo (top - pF f + 1)).1 w (lt_top114 _ _ hp hk)
    exact roundTiny_eq f m s (pF f) _ _ e top (eminI f) _ neg mo _ w hT hp (by omega) (by omega) (by omega) (by omega) (by rw [hq, beq_self_eq_true]) rfl cE cP cG cK
  · rw [if_neg hq]
    exact roundTiny_ne f m s (pF f) e top (eminI f) neg mo w hT hp (by omega) (by omega) (by omega) (by omega) (by rw [beq_eq_false_iff_ne]; exact hq) cE cP
theorem roundPack_any (f m s : Nat) (e : Int) (neg mo : Bool) (w : World) (hT : Tab w) (hf : f < 256) (hm : m < 256) (hs : s < top6) :
    Calls Tryd.prog 69 #[.int .u8 f, .int .u8 m, RV neg s e mo] w fun e' w' => e' = .returned (.tuple #[BV (packN f m neg s e mo).1, .int .u8 ((packN f m neg s e mo).2.1 : Nat), .int .i64 (packN f m neg s e mo).2.2]) ∧ Below w.heap.size w w' := by
  have hp := pF_113 f
  have hl4 : lenN s ≤ 384 := (lenN_le s 384).2 (by rw [show 384 = 64 * 6 from rfl, ← top6.eq_1]; exact hs)
  have cP := fun w => shapePrecision_any f w hf
  have cR := fun w => roundRight_any f m w hf hm
  have cL := fun w => wideLen_any s w hs
  have cZ := fun w => shapeZero_any f neg w hf
  by_cases hr : (decide (f < 4) && decide (m < 5)) = true
  case neg =>
    have hr' : (decide (f < 4) && decide (m < 5)) = false := by cases h : (decide (f < 4) && decide (m < 5)) <;> simp_all
    have hN : packN f m neg s e mo = (0, 0, 2) := by unfold packN packOk; rw [hr']; simp only [Bool.false_and, Bool.false_eq_true, if_false]
    rw [hN]
    rw [hr'] at cR
    exact roundPack_right f m s _ e neg mo w hp cP cR
  rw [hr] at cR
  have hf4 : f < 4 := by simp only [Bool.and_eq_true, decide_eq_true_eq] at hr; exact hr.1
  have hm5 : m < 5 := by simp only [Bool.and_eq_true, decide_eq_true_eq] at hr; exact hr.2
  by_cases he1 : e < -1048576
  · have hN : packN f m neg s e mo = (0, 0, 2) := by unfold packN packOk; rw [decide_eq_false (show ¬ -1048576 ≤ e by omega)]; simp only [Bool.and_false, Bool.false_and, Bool.false_eq_true, if_false]
    rw [hN]
    exact roundPack_low f m s _ e neg mo w hp he1 cP cR
  by_cases he2 : 1048576 < e
  · have hN : packN f m neg s e mo = (0, 0, 2) := by unfold packN packOk; rw [decide_eq_false (show ¬ e ≤ 1048576 by omega)]; simp only [Bool.and_false, Bool.false_and, Bool.false_eq_true, if_false]
    rw [hN]
    exact roundPack_high f m s _ e neg mo w hp he2 cP cR
  by_cases hmo : (mo && decide (lenN s < pF f + 2)) = true
  · have hN : packN f m neg s e mo = (0, 0, 2) := by unfold packN packOk; rw [hmo]; simp only [Bool.not_true, Bool.and_false, Bool.false_eq_true, if_false]
    rw [hN]
    have ht : mo = true := by cases mo <;> simp_all
    subst ht
    exact roundPack_more f m s (pF f) (lenN s) e neg w hp (by omega) (by omega) (by simpa using hmo) hl4 cP cR cL
  have hmo' : (mo && decide (lenN s < pF f + 2)) = false := by cases h : (mo && decide (lenN s < pF f + 2)) <;> simp_all
  have hok : packOk f m s e mo = true := by
    unfold packOk
    rw [hr, hmo', decide_eq_true (show -1048576 ≤ e by omega), decide_eq_true (show e ≤ 1048576 by omega)]; rfl
  have hl : mo = true → ¬ lenN s < pF f + 2 := by intro ht; subst ht; simpa using hmo'
  by_cases hz : s = 0
  · have hN : packN f m neg s e mo = (zeroN f neg, 0, 0) := by unfold packN; rw [if_pos hok, if_pos hz]
    rw [hN]
    cases mo with
    | false => exact roundPack_zero_f f m s (pF f) (lenN s) _ e neg w hT hp (by omega) (by omega) hl4 cP cR cL hs (decide_eq_true hz) cZ
    | true => exact roundPack_zero_t f m s (pF f) (lenN s) _ e neg w hT hp (by omega) (by omega) hl4 (hl rfl) cP cR cL hs (decide_eq_true hz) cZ
  have hN : packN f m neg s e mo = ((packB f m neg s e mo).1, (packB f m neg s e mo).2, 0) := by unfold packN; rw [if_pos hok, if_neg hz]
  rw [hN]
  have hK := formK f hf4
  have hl1 := lenN_pos s hz
  have cE := fun w => shapeEmin_any f w hf
  have cX := fun w => shapeEmax_any f w hf
  have cO := fun w => roundOver_any f m neg w hf4 hm5
  obtain ⟨top, htop⟩ : ∃ top, (lenN s : Int) - 1 + e = top := ⟨_, rfl⟩
  have hz' := decide_eq_false hz
  unfold packB
  rw [htop]
  by_cases hov : (eF f : Int) < top
  · rw [if_pos hov]
    cases mo with
    | false => exact roundPack_over_f f m s (pF f) (lenN s) (eF f) _ e top (eminI f) neg w hT hp (by omega) (by omega) hl4 cP cR cL hs hz' htop (by omega) (by omega) (by omega) (by omega) (by omega) cE cX hov cO
    | true => exact roundPack_over_t f m s (pF f) (lenN s) (eF f) _ e top (eminI f) neg w hT hp (by omega) (by omega) hl4 (hl rfl) cP cR cL hs hz' htop (by omega) (by omega) (by omega) (by omega) (by omega) cE cX hov cO
  rw [if_neg hov]
  have hat : atN f top = max top (eminI f) - (pF f : Int) + 1 := rfl
  have hk := gridN_le m s (pF f) neg mo e (atN f top) (by rw [hat]; omega)
  have cG := fun w hT => roundGrid_any m s e (atN f top) neg mo w hT hm hs (by omega) (by omega) (by rw [hat]; omega) (by rw [hat]; omega) (by rw [hat]; omega)
  have cT := fun w hT => roundTiny_any f m s e top neg mo w hT hf4 hm5 hs hz (by omega) (by omega) htop
  obtain ⟨k, ex, hg⟩ : ∃ k ex, gridN m neg s e mo (atN f top) = (k, ex) := ⟨_, _, rfl⟩
  rw [hg] at cG hk ⊢
  rw [hat] at cG
  have hk' : k ≤ 2 ^ pF f := hk
  have hkt := lt_top114 k _ hp hk'
  have hkl := lenN_le_of k _ hk'
  have cK := fun w => wideLen_any k w hkt
  by_cases hov2 : (eF f : Int) < lenN k - 1 + atN f top
  · rw [if_pos hov2]
    rw [hat] at hov2
    cases mo with
    | false => exact roundPack_over2_f f m s (pF f) (lenN s) (eF f) k (lenN k) _ e top (eminI f) neg ex w hT hp (by omega) (by omega) hl4 cP cR cL hs hz' htop (by omega) (by omega) (by omega) (by omega) (by omega) cE cX (by omega) hov hov2 cG cK cO
    | true => exact roundPack_over2_t f m s (pF f) (lenN s) (eF f) k (lenN k) _ e top (eminI f) neg ex w hT hp (by omega) (by omega) hl4 (hl rfl) cP cR cL hs hz' htop (by omega) (by omega) (by omega) (by omega) (by omega) cE cX (by omega) hov hov2 cG cK cO
  rw [if_neg hov2]
  rw [hat] at hov2
  obtain ⟨d, hd⟩ : ∃ d : Nat, d = (max top (eminI f) - eminI f).toNat := ⟨_, rfl⟩
  have hd1 : max top (eminI f) - (pF f : Int) + 1 - eminI f + (pF f : Int) - 1 = (d : Int) := by omega
  have hd2 : (atN f top - eminI f + pF f - 1).toNat = d := by rw [hat]; omega
  have hen := enc_lt f k d hf4 hk' (by omega)
  have cOf := fun w => wideOf_any d w (by omega)
  rw [← hd1] at cOf
  have cLf := fun w => wideLeft_any d ((pF f : Int) - 1) w (lt_top_bits d (by omega))
  have hcl : clip ((pF f : Int) - 1) = pF f - 1 := by unfold clip; omega
  rw [hcl] at cLf
  have cAd := fun w => wideAdd_any (d * 2 ^ (pF f - 1)) k w
  have hw : 2 ^ (wF f - 1) ≤ 2 ^ (64 * 2) := Nat.pow_le_pow_right (by decide) (by rcases forms f with rfl | rfl | rfl | rfl | h <;> first | decide | omega)
  have cB := fun w => wideToBits_any (d * 2 ^ (pF f - 1) + k) w (Nat.lt_of_lt_of_le hen hw)
  have hzn : zeroN f neg = signN f neg := by unfold zeroN; rw [decide_eq_true hf4, cond_true]
  have hor : (d * 2 ^ (pF f - 1) + k) ||| zeroN f neg = encN f neg k (atN f top) := by
    rw [hzn, or_sign f _ neg hen]; unfold encN; rw [hd2]
  have fin : ∀ fl : Value, Ending.returned (.tuple #[.agg #[.int .u64 (Go.bits .or .u64 (limb (d * 2 ^ (pF f - 1) + k) 1) (limb (zeroN f neg) 1)), .int .u64 (Go.bits .or .u64 (limb (d * 2 ^ (pF f - 1) + k) 0) (limb (zeroN f neg) 0))], fl, .int .i64 0]) = .returned (.tuple #[BV (encN f neg k (atN f top)), fl, .int .i64 0]) := by
    intro fl
    have h := pair_or (d * 2 ^ (pF f - 1) + k) (zeroN f neg)
    rw [hor] at h
    injection h with h
    rw [h]
  cases ex with
  | true =>
    simp only [cond_true]
    cases mo with
    | false =>
      refine (roundPack_x_f f m s (pF f) (lenN s) (eF f) k (lenN k) _ d _ _ _ e top (eminI f) neg _ _ _ w hT hp (by omega) (by omega) hl4 cP cR cL hs hz' htop (by omega) (by omega) (by omega) (by omega) (by omega) cE cX (by omega) hov hov2 cG cK cOf cLf cAd cB cZ).mono ?_
      intro e' w' ⟨he, hb⟩
      exact ⟨he.trans (fin _), hb⟩
    | true =>
      refine (roundPack_x_t f m s (pF f) (lenN s) (eF f) k (lenN k) _ d _ _ _ e top (eminI f) neg _ _ _ w hT hp (by omega) (by omega) hl4 (hl rfl) cP cR cL hs hz' htop (by omega) (by omega) (by omega) (by omega) (by omega) cE cX (by omega) hov hov2 cG cK cOf cLf cAd cB cZ).mono ?_
      intro e' w' ⟨he, hb⟩
      exact ⟨he.trans (fin _), hb⟩
  | false =>
    simp only [cond_false]
    cases hty : tinyB f m neg s e mo top with
    | false =>
      rw [hty] at cT
      simp only [cond_false]
      cases mo with
      | false =>
        refine (roundPack_i_f f m s (pF f) (lenN s) (eF f) k (lenN k) _ d _ _ _ e top (eminI f) neg _ _ _ w hT hp (by omega) (by omega) hl4 cP cR cL hs hz' htop (by omega) (by omega) (by omega) (by omega) (by omega) cE cX (by omega) hov hov2 cG cK cOf cLf cAd cB cZ cT).mono ?_
        intro e' w' ⟨he, hb⟩
        exact ⟨he.trans (fin _), hb⟩
      | true =>
        refine (roundPack_i_t f m s (pF f) (lenN s) (eF f) k (lenN k) _ d _ _ _ e top (eminI f) neg _ _ _ w hT hp (by omega) (by omega) hl4 (hl rfl) cP cR cL hs hz' htop (by omega) (by omega) (by omega) (by omega) (by omega) cE cX (by omega) hov hov2 cG cK cOf cLf cAd cB cZ cT).mono ?_
        intro e' w' ⟨he, hb⟩
        exact ⟨he.trans (fin _), hb⟩
    | true =>
      rw [hty] at cT
      simp only [cond_true]
      cases mo with
      | false =>
        refine (roundPack_u_f f m s (pF f) (lenN s) (eF f) k (lenN k) _ d _ _ _ e top (eminI f) neg _ _ _ w hT hp (by omega) (by omega) hl4 cP cR cL hs hz' htop (by omega) (by omega) (by omega) (by omega) (by omega) cE cX (by omega) hov hov2 cG cK cOf cLf cAd cB cZ cT).mono ?_
        intro e' w' ⟨he, hb⟩
        exact ⟨he.trans (fin _), hb⟩
      | true =>
        refine (roundPack_u_t f m s (pF f) (lenN s) (eF f) k (lenN k) _ d _ _ _ e top (eminI f) neg _ _ _ w hT hp (by omega) (by omega) hl4 (hl rfl) cP cR cL hs hz' htop (by omega) (by omega) (by omega) (by omega) (by omega) cE cX (by omega) hov hov2 cG cK cOf cLf cAd cB cZ cT).mono ?_
        intro e' w' ⟨he, hb⟩
        exact ⟨he.trans (fin _), hb⟩
end Go.Proofs.YtjgonofkklpgaaaDoor

namespace Go.Proofs.YtjgonofkklpgaaaDoor
/-- How many bits the dividend is moved up. -/
def divSh (f a b : Nat) : Nat := (max ((pF f : Int) + 3 + lenN (sigN f b) - lenN (sigN f a)) 0).toNat
def divR (f m a b : Nat) : Nat × Nat :=
  if (nanB (clsN f a) || nanB (clsN f b)) = true then canonR f (clsN f a) (clsN f b)
  else if (infB (clsN f a) && infB (clsN f b) || zerB (clsN f a) && zerB (clsN f b)) = true then (nanN f, 16)
  else if infB (clsN f a) = true then (infN f (belowN4 (clsN f a) != belowN4 (clsN f b)), 0)
  else if (infB (clsN f b) || zerB (clsN f a)) = true then (zeroN f (belowN4 (clsN f a) != belowN4 (clsN f b)), 0)
  else if zerB (clsN f b) = true then (infN f (belowN4 (clsN f a) != belowN4 (clsN f b)), 8)
  else packB f m (belowN4 (clsN f a) != belowN4 (clsN f b)) (sigN f a * 2 ^ divSh f a b / sigN f b) (xpN f a - xpN f b - divSh f a b) (!decide (sigN f a * 2 ^ divSh f a b % sigN f b = 0))
def divN (f m a b : Nat) : Nat × Nat × Int := cond (binOk f m a b) ((divR f m a b).1, (divR f m a b).2, 0) (0, 0, 2)
theorem fin_flags (f b : Nat) (h : Fin0 f b) : nanB (clsN f b) = false ∧ infB (clsN f b) = false ∧ zerB (clsN f b) = false := by
  rcases h with c | c | c | c <;> rw [c] <;> exact ⟨rfl, rfl, rfl⟩
theorem zer_flags (f b : Nat) (h : clsN f b = 3 ∨ clsN f b = 4) : nanB (clsN f b) = false ∧ infB (clsN f b) = false ∧ zerB (clsN f b) = true := by
  rcases h with c | c <;> rw [c] <;> exact ⟨rfl, rfl, rfl⟩
/-- By 1. -/
theorem div_one (f m a : Nat) (hf : f < 4) (h : fitsB f a = true) (hc : Fin0 f a ∨ clsN f a = 3 ∨ clsN f a = 4) : divR f m a (oneN f false) = (a, 0) := by
  obtain ⟨o1, o2, o3, o4⟩ := one_parts f false hf
  have ho : belowN4 (clsN f (oneN f false)) = false := by rw [o2]; rfl
  have hon : nanB (clsN f (oneN f false)) = false ∧ infB (clsN f (oneN f false)) = false ∧ zerB (clsN f (oneN f false)) = false := by rw [o2]; exact ⟨rfl, rfl, rfl⟩
  have h8 : ¬ 8 ≤ clsN f a := by unfold Fin0 at hc; omega
  have hbn := below_neg f a h8
  unfold divR
  rw [hon.1, hon.2.1, hon.2.2, ho, hbn, bne_false]
  rcases hc with hc | hc
  · obtain ⟨e1, e2, e3⟩ := fin_flags f a hc
    obtain ⟨hcan, henc⟩ := can_of f a h hc
    rw [e1, e2, e3]
    simp only [Bool.or_self, Bool.false_eq_true, if_false, Bool.and_self]
    rw [o3, o4]
    obtain ⟨h1, h2, h3, h4, h5, h6, h7, h8'⟩ := formK f hf
    have hl := (lenN_le _ _).2 hcan.lt
    have hlp := lenN_pos _ hcan.pos
    have hlo : lenN (2 ^ (pF f - 1)) = pF f := lenN_unique _ _ (Nat.le_refl _) (Nat.pow_lt_pow_right (by decide) (by omega)) (by omega)
    obtain ⟨k, hk⟩ : ∃ k, divSh f a (oneN f false) = k + (pF f - 1) := ⟨divSh f a (oneN f false) - (pF f - 1), by unfold divSh; rw [o3, hlo]; omega⟩
    rw [hk, Nat.pow_add, ← Nat.mul_assoc, Nat.mul_div_cancel _ (two_pos _), Nat.mul_mod_left, decide_eq_true rfl]
    rw [Bool.not_true, pack_exact f m (sigN f a) _ (xpN f a) _ (negN f a) hf hcan (Or.inl ⟨by omega, by rw [show (xpN f a - (xpN f a - (1 - (pF f : Int)) - ((k + (pF f - 1) : Nat) : Int))).toNat = k by omega]⟩), henc]
  · obtain ⟨e1, e2, e3⟩ := zer_flags f a hc
    rw [e1, e2, e3]
    simp only [Bool.or_self, Bool.false_eq_true, if_false, Bool.and_self, Bool.and_false, Bool.or_true, if_true]
    rw [zero_of f a h hc]
/-- By itself. -/
theorem div_self (f m a : Nat) (hf : f < 4) (h : fitsB f a = true) (hc : Fin0 f a) : divR f m a a = (oneN f false, 0) := by
  obtain ⟨e1, e2, e3⟩ := fin_flags f a hc
  obtain ⟨hcan, henc⟩ := can_of f a h hc
  obtain ⟨h1, h2, h3, h4, h5, h6, h7, h8⟩ := formK f hf
  obtain ⟨o1, o2, o3, o4⟩ := one_parts f false hf
  have ho : Fin0 f (oneN f false) := by unfold Fin0; rw [o2]; decide
  obtain ⟨ocan, oenc⟩ := can_of f (oneN f false) o1 ho
  have on : negN f (oneN f false) = false := by rw [one_mk f false hf]; exact (mkN_fields f hf false (eF f) 0 (two_pos _) (by omega)).2.2.1
  rw [on] at oenc
  unfold divR
  rw [e1, e2, e3]
  simp only [Bool.or_self, Bool.false_eq_true, if_false, Bool.and_self, bne_self_eq_false]
  have hs : divSh f a a = pF f + 3 := by unfold divSh; omega
  have hp : 0 < sigN f a := Nat.pos_of_ne_zero hcan.pos
  rw [hs, Nat.mul_div_cancel_left _ hp, Nat.mul_mod_right, decide_eq_true rfl, Bool.not_true]
  rw [pack_exact f m (sigN f (oneN f false)) _ (xpN f (oneN f false)) _ false hf ocan (Or.inl ⟨by rw [o4]; omega, ?_⟩), oenc]
  rw [o3, o4, ← Nat.pow_add, show pF f - 1 + (1 - (pF f : Int) - (xpN f a - xpN f a - ((pF f + 3 : Nat) : Int))).toNat = pF f + 3 by omega]
theorem div_zero (f m a : Nat) (hc : clsN f a = 3 ∨ clsN f a = 4) : divR f m a a = (nanN f, 16) := by
  obtain ⟨e1, e2, e3⟩ := zer_flags f a hc
  unfold divR
  rw [e1, e2, e3]
  simp
end Go.Proofs.YtjgonofkklpgaaaDoor

namespace Go.Proofs.YtjgonofkklpgaaaDoor
theorem or_one (a : Nat) : a ||| 1 = a / 2 * 2 + 1 := by
  have h1 : a = 2 * (a / 2) + a % 2 := (Nat.div_add_mod a 2).symm
  have h2 : a / 2 * 2 ||| 1 = a / 2 * 2 + 1 := by
    have := Nat.two_pow_add_eq_or_of_lt (i := 1) (b := 1) (by decide) (a / 2)
    rw [Nat.pow_one, Nat.mul_comm] at this; exact this.symm
  have : a % 2 = 0 ∨ a % 2 = 1 := by omega
  rcases this with h | h
  · have e : a / 2 * 2 = a := by omega
    rw [← h2, e]
  · have e : a = a / 2 * 2 + 1 := by omega
    rw [← h2]
    conv => lhs; rw [e, ← h2]
    rw [Nat.or_assoc, Nat.or_self]
end Go.Proofs.YtjgonofkklpgaaaDoor

namespace Go.Proofs.YtjgonofkklpgaaaDoor
theorem half_bit (a i : Nat) : a / 2 ^ i = 2 * (a / 2 ^ (i + 1)) + a / 2 ^ i % 2 := by
  rw [Nat.pow_succ, ← Nat.div_div_eq_div_mul]; omega
theorem div_hi (A b d : Nat) (hb : 0 < b) (hd : d < 2) (h : b ≤ 2 * (A % b) + d) : (2 * A + d) / b = 2 * (A / b) + 1 ∧ (2 * A + d) % b = 2 * (A % b) + d - b := by
  have h1 := Nat.div_add_mod A b
  have h2 := Nat.mod_lt A hb
  have e : 2 * A + d = b * (2 * (A / b) + 1) + (2 * (A % b) + d - b) := by
    rw [Nat.mul_add, Nat.mul_one, Nat.mul_left_comm]
    generalize b * (A / b) = X at *
    omega
  have h3 : 2 * (A % b) + d - b < b := by omega
  constructor
  · rw [e, Nat.mul_add_div hb, Nat.div_eq_of_lt h3, Nat.add_zero]
  · rw [e, Nat.mul_add_mod, Nat.mod_eq_of_lt h3]
theorem div_lo (A b d : Nat) (hb : 0 < b) (h : 2 * (A % b) + d < b) : (2 * A + d) / b = 2 * (A / b) ∧ (2 * A + d) % b = 2 * (A % b) + d := by
  have h1 := Nat.div_add_mod A b
  have e : 2 * A + d = b * (2 * (A / b)) + (2 * (A % b) + d) := by
    rw [Nat.mul_left_comm]
    generalize b * (A / b) = X at *
    omega
  constructor
  · rw [e, Nat.mul_add_div hb, Nat.div_eq_of_lt h, Nat.add_zero]
  · rw [e, Nat.mul_add_mod, Nat.mod_eq_of_lt h]
/-- A round of the division: the bits from i on. -/
theorem div_round (a b i : Nat) (hb : 0 < b) :
    (b ≤ 2 * (a / 2 ^ (i + 1) % b) + a / 2 ^ i % 2 → a / 2 ^ i / b * 2 ^ i = a / 2 ^ (i + 1) / b * 2 ^ (i + 1) + 2 ^ i ∧ a / 2 ^ i % b = 2 * (a / 2 ^ (i + 1) % b) + a / 2 ^ i % 2 - b) ∧
    (2 * (a / 2 ^ (i + 1) % b) + a / 2 ^ i % 2 < b → a / 2 ^ i / b * 2 ^ i = a / 2 ^ (i + 1) / b * 2 ^ (i + 1) ∧ a / 2 ^ i % b = 2 * (a / 2 ^ (i + 1) % b) + a / 2 ^ i % 2) := by
  have hd : a / 2 ^ i % 2 < 2 := Nat.mod_lt _ (by decide)
  have hs := half_bit a i
  generalize a / 2 ^ i % 2 = d at *
  rw [hs]
  have hp : 2 ^ (i + 1) = 2 ^ i * 2 := Nat.pow_succ _ _
  generalize a / 2 ^ (i + 1) = A at *
  rw [hp]
  constructor
  · intro h
    obtain ⟨e1, e2⟩ := div_hi A b d hb hd h
    refine ⟨?_, e2⟩
    rw [e1, Nat.add_mul, Nat.one_mul, Nat.mul_comm 2 (A / b), Nat.mul_assoc, Nat.mul_comm 2]
  · intro h
    obtain ⟨e1, e2⟩ := div_lo A b d hb h
    refine ⟨?_, e2⟩
    rw [e1, Nat.mul_comm 2 (A / b), Nat.mul_assoc, Nat.mul_comm 2]
/-- A bit put where there is none, nor beneath. -/
theorem or_bit (k i : Nat) : k * 2 ^ (i + 1) ||| 2 ^ i = k * 2 ^ (i + 1) + 2 ^ i := by
  have h : 2 ^ i < 2 ^ (i + 1) := Nat.pow_lt_pow_right (by decide) (by omega)
  have := Nat.two_pow_add_eq_or_of_lt h k
  rw [Nat.mul_comm]; exact this.symm
end Go.Proofs.YtjgonofkklpgaaaDoor

namespace Go.Proofs.YtjgonofkklpgaaaDoor
open Go.RowKit
theorem limbN_pow (i j : Nat) : limbN (2 ^ i) j = if j = i / 64 then 2 ^ (i % 64) else 0 := by
  have h64 : 2 ^ (i % 64) < 18446744073709551616 := by rw [B64]; exact Nat.pow_lt_pow_right (by decide) (Nat.mod_lt _ (by decide))
  have hp : 2 ^ i = 0 + 2 ^ (i % 64) * 2 ^ (64 * (i / 64)) := by
    rw [Nat.zero_add, ← Nat.pow_add]; congr 1; omega
  have := limbN_put 0 (2 ^ (i % 64)) (i / 64) j (pw_pos _) h64
  rw [← hp] at this
  rw [this]
  have h0 : limbN 0 j = 0 := by unfold limbN; rw [Nat.zero_div]
  rw [h0]
/-- A bit set. -/
theorem limbs_or_bit (q i : Nat) (hi : i < 384) : (limbs q).setIfInBounds (i / 64) (.int .u64 (Go.bits .or .u64 (limb q (i / 64)) ((2 ^ (i % 64) : Nat) : Int))) = limbs (q ||| 2 ^ i) := by
  have key : ∀ j, limb (q ||| 2 ^ i) j = if j = i / 64 then Go.bits .or .u64 (limb q (i / 64)) ((2 ^ (i % 64) : Nat) : Int) else limb q j := by
    intro j
    rw [← limb_or]
    unfold limb
    rw [limbN_pow i j]
    split
    · rename_i h; rw [h]
    · rw [u64_or_nat _ _ (limbN_lt q j) (by decide), Nat.or_zero]
  apply Array.ext_getElem?
  intro j
  by_cases hj : j < 6
  · rw [limbs_get _ j hj, Array.getElem?_setIfInBounds, key j]
    by_cases h : i / 64 = j
    · rw [if_pos h, if_pos (by rw [limbs_size]; omega), if_pos h.symm]
    · rw [if_neg h, if_neg (fun e => h e.symm)]; exact limbs_get q j hj
  · rw [Array.getElem?_eq_none (by rw [Array.size_setIfInBounds, limbs_size]; omega), Array.getElem?_eq_none (by rw [limbs_size]; omega)]
theorem limbs_or1 (x : Nat) : (limbs x).setIfInBounds 0 (.int .u64 (Go.bits .or .u64 (limb x 0) 1)) = limbs (x ||| 1) := limbs_or_bit x 0 (by decide)
theorem set_or1 (x : Nat) : setRow (limbs x) 0 (#[.int .u64 (Go.bits .or .u64 (limb x 0) 1)] : Array Value).toList = limbs (x ||| 1) := limbs_or1 x
end Go.Proofs.YtjgonofkklpgaaaDoor

namespace Go.Proofs.YtjgonofkklpgaaaDoor
/-- The exact sum of two numbers, rounded. -/
def sumX (f m : Nat) (nx : Bool) (sx : Nat) (ex : Int) (ny : Bool) (sy : Nat) (ey : Int) : Nat × Nat :=
  if nx = ny then packB f m nx (sx * 2 ^ (ex - min ex ey).toNat + sy * 2 ^ (ey - min ex ey).toNat) (min ex ey) false
  else if sx * 2 ^ (ex - min ex ey).toNat = sy * 2 ^ (ey - min ex ey).toNat then (zeroN f (decide (m = 2)), 0)
  else if sy * 2 ^ (ey - min ex ey).toNat < sx * 2 ^ (ex - min ex ey).toNat then packB f m nx (sx * 2 ^ (ex - min ex ey).toNat - sy * 2 ^ (ey - min ex ey).toNat) (min ex ey) false
  else packB f m ny (sy * 2 ^ (ey - min ex ey).toNat - sx * 2 ^ (ex - min ex ey).toNat) (min ex ey) false
def addR (f m a b : Nat) : Nat × Nat :=
  if (nanB (clsN f a) || nanB (clsN f b)) = true then canonR f (clsN f a) (clsN f b)
  else if (infB (clsN f a) && infB (clsN f b) && !decide (clsN f a = clsN f b)) = true then (nanN f, 16)
  else if infB (clsN f a) = true then (a, 0)
  else if infB (clsN f b) = true then (b, 0)
  else if (zerB (clsN f a) && zerB (clsN f b)) = true then (if clsN f a = clsN f b then (a, 0) else (zeroN f (decide (m = 2)), 0))
  else if zerB (clsN f a) = true then (b, 0)
  else if zerB (clsN f b) = true then (a, 0)
  else sumX f m (belowN4 (clsN f a)) (sigN f a) (xpN f a) (belowN4 (clsN f b)) (sigN f b) (xpN f b)
/-- A zero of the own sign. -/
theorem add_zero (f m a : Nat) (hf : f < 4) (hc : Fin0 f a ∨ clsN f a = 3 ∨ clsN f a = 4) : addR f m a (zeroN f (negN f a)) = (a, 0) := by
  obtain ⟨z1, z2⟩ := zero_parts f (negN f a) hf
  have hz : clsN f (zeroN f (negN f a)) = 3 ∨ clsN f (zeroN f (negN f a)) = 4 := by rw [z2]; cases negN f a <;> simp
  obtain ⟨b1, b2, b3⟩ := zer_flags f _ hz
  unfold addR
  rw [b1, b2, b3]
  rcases hc with hc | hc
  · obtain ⟨a1, a2, a3⟩ := fin_flags f a hc
    rw [a1, a2, a3]; simp
  · obtain ⟨a1, a2, a3⟩ := zer_flags f a hc
    have he : clsN f a = clsN f (zeroN f (negN f a)) := by
      rw [z2, ← below_neg f a (by omega)]; unfold belowN4; rcases hc with h | h <;> rw [h] <;> rfl
    rw [a1, a2, a3, if_pos he]; simp
end Go.Proofs.YtjgonofkklpgaaaDoor

namespace Go.Proofs.YtjgonofkklpgaaaDoor
open Go.RowKit
set_option maxHeartbeats 1600000 in
set_option maxRecDepth 100000 in
theorem quotDigits_ok (a b x q r : Nat) (n : Int) (w : World) (hn : 0 ≤ n) (hn2 : n ≤ 384) (hb : b < top6) (hb0 : decide (b = 0) = false) (hr : r < top6) (cL : ∀ w, Calls Tryd.prog 57 #[W a, .int .i64 n] w fun e w' => e = .returned (.tuple #[W x, .bool false]) ∧ Below w.heap.size w w') (cD : ∀ w, Calls Tryd.prog 153 #[W x, W b] w fun e w' => e = .returned (.tuple #[W q, W r, .int .i64 0]) ∧ Below w.heap.size w w') :
    Calls Tryd.prog 102 #[W a, W b, .int .i64 n] w fun e w' => e = .returned (.tuple #[W q, .bool (!decide (r = 0)), .int .i64 0]) ∧ Below w.heap.size w w' := by
  have H := Own.start w
  have eq1 : ∀ w, (Op.equalIn 10000 35 (.agg (limbs b)) (.agg #[.int .u64 0, .int .u64 0, .int .u64 0, .int .u64 0, .int .u64 0, .int .u64 0])).run Tryd.prog w = .ok false w := fun w => (run_equal_zero w b hb).trans (by rw [hb0])
  have eq2 : ∀ w, (Op.equalIn 10000 35 (.agg (limbs r)) (.agg #[.int .u64 0, .int .u64 0, .int .u64 0, .int .u64 0, .int .u64 0, .int .u64 0])).run Tryd.prog w = .ok (decide (r = 0)) w := fun w => run_equal_zero w r hr
  have d1 : decide (n < 0) = false := by simp; omega
  have d2 : decide (384 < n) = false := by simp; omega
  clear hb hb0 hr
  go_enter Tryd.func102, Tryd.ntmps102
  go_wp2_with (first
    | ((with_reducible show wpList _ _ _ (⟨_, .box _ _, _, _, _, _⟩ :: _) _ _); refine H.box rfl rfl (cells_agg _) ?_; (intro g w H; simp only [Act.put, List.setIfInBounds_toArray, List.set_cons_zero, List.set_cons_succ]))
    | ((with_reducible show wpList _ _ _ (⟨_, .alloc 35, _, _, _, _⟩ :: _) _ _); refine H.mk0 rfl rW rfl ?_; (intro g w H; simp only [Act.put, List.setIfInBounds_toArray, List.set_cons_zero, List.set_cons_succ]))
    | ((with_reducible show wpList _ _ _ (⟨_, .load 35 _, _, _, _, _⟩ :: _) _ _); refine H.ld rfl rW rfl rfl (by repeat (first | with_reducible exact List.mem_cons_self | apply List.mem_cons_of_mem)) (by first | with_reducible exact ext_limbs _ | with_reducible exact ext_parts_s _ _ _ _ | with_reducible exact ext_rough_s _ _ _ _ | with_reducible exact ext_parts_f _ _ _ _) (by rfl) ?_; simp only [Act.put, List.setIfInBounds_toArray, List.set_cons_zero, List.set_cons_succ])
    | ((with_reducible show wpList _ _ _ (⟨_, .store 35 _ _, _, _, _, _⟩ :: _) _ _); refine H.st rfl rW rfl rfl (cells_agg _) (by repeat (first | with_reducible exact Upd.head _ | apply Upd.tail)) (set_limbs _ _) (by rfl) (by exact one_of rfl) (by first | exact ble_le rfl | (change _ + 1 ≤ 12; omega) | (change _ + 1 ≤ 6; omega)) ?_; (intro w H; simp only [Act.put]))
    | ((with_reducible show Code.wp _ (.region 7 _ true) _ _ _); refine H.heldSub rfl (List.Sublist.cons_cons _ (List.Sublist.cons _ (List.Sublist.refl _))) ?_; intro H; refine H.tk (by repeat (first | with_reducible exact List.Sublist.refl _ | with_reducible apply List.Sublist.cons_cons | with_reducible apply List.Sublist.cons)) 0 rfl (by kernel_rfl) (by kernel_rfl) (by kernel_rfl) (fun _ _ _ _ h => h) rfl rW rfl rfl (by repeat (first | with_reducible exact List.mem_cons_self | apply List.mem_cons_of_mem)) (by first | with_reducible exact ext_limbs _ | with_reducible exact ext_parts_s _ _ _ _ | with_reducible exact ext_rough_s _ _ _ _ | with_reducible exact ext_parts_f _ _ _ _) (by rfl) ?_; (try simp only [Act.put, List.setIfInBounds_toArray, List.set_cons_zero, List.set_cons_succ]); (try simp only [List.getElem_toArray, List.getElem_cons_zero, List.getElem_cons_succ]); refine H.tk (by repeat (first | with_reducible exact List.Sublist.refl _ | with_reducible apply List.Sublist.cons_cons | with_reducible apply List.Sublist.cons)) 1 rfl (by kernel_rfl) (by kernel_rfl) (by kernel_rfl) (fun _ _ _ _ h => h) rfl rW rfl rfl (by repeat (first | with_reducible exact List.mem_cons_self | apply List.mem_cons_of_mem)) (by first | with_reducible exact ext_limbs _ | with_reducible exact ext_parts_s _ _ _ _ | with_reducible exact ext_rough_s _ _ _ _ | with_reducible exact ext_parts_f _ _ _ _) (by rfl) ?_; (try simp only [Act.put, List.setIfInBounds_toArray, List.set_cons_zero, List.set_cons_succ]); (try simp only [List.getElem_toArray, List.getElem_cons_zero, List.getElem_cons_succ]); refine H.takeRun (by repeat (first | with_reducible exact List.Sublist.refl _ | with_reducible apply List.Sublist.cons_cons | with_reducible apply List.Sublist.cons)) 2 rfl (by kernel_rfl) (by kernel_rfl) (by kernel_rfl) (fun _ _ _ _ h => h) rfl (by intro w; go_simp; (try with_reducible rfl)) ?_; (try simp only [Act.put, List.setIfInBounds_toArray, List.set_cons_zero, List.set_cons_succ]); (try simp only [List.getElem_toArray, List.getElem_cons_zero, List.getElem_cons_succ]); refine H.takeRun (by repeat (first | with_reducible exact List.Sublist.refl _ | with_reducible apply List.Sublist.cons_cons | with_reducible apply List.Sublist.cons)) 3 rfl (by kernel_rfl) (by kernel_rfl) (by kernel_rfl) (fun _ _ _ _ h => h) rfl (by intro w; go_simp; (try with_reducible rfl)) ?_; (try simp only [Act.put, List.setIfInBounds_toArray, List.set_cons_zero, List.set_cons_succ]); (try simp only [List.getElem_toArray, List.getElem_cons_zero, List.getElem_cons_succ]); refine H.takeRun (by repeat (first | with_reducible exact List.Sublist.refl _ | with_reducible apply List.Sublist.cons_cons | with_reducible apply List.Sublist.cons)) 4 rfl (by kernel_rfl) (by kernel_rfl) (by kernel_rfl) (fun _ _ _ _ h => h) rfl (by intro w; go_simp; (try with_reducible rfl)) ?_; (try simp only [Act.put, List.setIfInBounds_toArray, List.set_cons_zero, List.set_cons_succ]); (try simp only [List.getElem_toArray, List.getElem_cons_zero, List.getElem_cons_succ]); refine held_one (i := 5) (by kernel_rfl) rfl rfl ?_; refine H.ost rW rfl rfl (cells_agg _) (by repeat (first | with_reducible exact Upd.head _ | apply Upd.tail)) (set_limbs _ _) (by rfl) (by exact one_of rfl) (by first | exact ble_le rfl | (change _ + 1 ≤ 12; omega) | (change _ + 1 ≤ 6; omega)) ?_; intro w H; refine H.next (by repeat (first | with_reducible exact List.Sublist.refl _ | with_reducible apply List.Sublist.cons_cons | with_reducible apply List.Sublist.cons)) ?_; (try simp only [Act.put]); refine H.takeRun (by repeat (first | with_reducible exact List.Sublist.refl _ | with_reducible apply List.Sublist.cons_cons | with_reducible apply List.Sublist.cons)) 6 rfl (by kernel_rfl) (by kernel_rfl) (by kernel_rfl) (fun _ _ _ _ h => h) rfl (by intro w; go_simp; (try with_reducible rfl)) ?_; (try simp only [Act.put, List.setIfInBounds_toArray, List.set_cons_zero, List.set_cons_succ]); (try simp only [List.getElem_toArray, List.getElem_cons_zero, List.getElem_cons_succ]); refine H.takeRun (by repeat (first | with_reducible exact List.Sublist.refl _ | with_reducible apply List.Sublist.cons_cons | with_reducible apply List.Sublist.cons)) 7 rfl (by kernel_rfl) (by kernel_rfl) (by kernel_rfl) (fun _ _ _ _ h => h) rfl (by intro w; go_simp; (try with_reducible rfl)) ?_; (try simp only [Act.put, List.setIfInBounds_toArray, List.set_cons_zero, List.set_cons_succ]); (try simp only [List.getElem_toArray, List.getElem_cons_zero, List.getElem_cons_succ]); refine wpAnyH_done (by kernel_rfl) ?_ _)
    | (go_at_call 57; ((with_reducible refine (cL _).mono ?_); rintro e w ⟨rfl, hb⟩; replace H := H.call hb; clear hb))
    | (go_at_call 153; ((with_reducible refine (cD _).mono ?_); rintro e w ⟨rfl, hb⟩; replace H := H.call hb; clear hb))
    )
  all_goals
    refine bodyPost_ret (results_ctt rfl rfl (H.res rW (by repeat (first | with_reducible exact List.mem_cons_self | apply List.mem_cons_of_mem)) (by first | with_reducible exact ext_limbs _ | with_reducible exact ext_parts_s _ _ _ _ | with_reducible exact ext_rough_s _ _ _ _ | with_reducible exact ext_parts_f _ _ _ _) (by rfl))) rfl ⟨?_, H.below⟩
    exact rfl
end Go.Proofs.YtjgonofkklpgaaaDoor

namespace Go.Proofs.YtjgonofkklpgaaaDoor
open Go.RowKit
section
variable {P : Program} {w : World} {op : Oper} {a : Act} {Q : Exit → Act → World → Prop} {ops : Array Oper} {rest : List Oper}
theorem run_build {t : TypeId} {n : Nat} {z : Array Value} {fs : Array Field} {places : Array (Nat × Nat)} (R : IsRow P t n z) (hu : P.underlying t = some (.struct fs))
    (hp : (fs.mapM fun f => do pure (f.offset, ← sizeOf f.type) : Sem (Array (Nat × Nat))).run P w = .ok places w) (ps : Array (Nat × Value)) (cs : Array Value) (hf : Instr.fill (places[·]?) z ps.toList = some cs) :
    (Instr.build t ps).run P w = .ok (.agg cs) w := by
  have hz := run_zeroValue R.zero w
  unfold Instr.build
  simp only [Sem.run_bind, hz, Result.andThen_ok, run_underlying hu, hp, Value.cells, hf]
  rfl
theorem fill_step (place : Nat → Option (Nat × Nat)) (cells : Array Value) (i off size : Nat) (v : Value) (rest : List (Nat × Value)) (hp : place i = some (off, size)) (h1 : v.cells.size = size) (h2 : off + size ≤ cells.size) :
    Instr.fill place cells ((i, v) :: rest) = Instr.fill place (setRow cells off v.cells.toList) rest := by
  rw [Instr.fill]
  simp only [hp]
  rw [if_neg (by simp [h1]; omega), foldl_cells]
theorem wp_bld {t : TypeId} {ps : Array (Nat × Operand)} (hw : Region.wanted op (yielded ops a.tmps) = true) (ho : op.op = .build t ps) {vs : Array (Nat × Value)} (hvs : (ps.map fun (i, x) => (i, a.eval x)) = vs) {v : Value}
    (hv : ∀ w, (Instr.build t vs).run P w = .ok v w) (h : wpList P ops Q rest (a.put op.dst v) w) : wpList P ops Q (op :: rest) a w := by
  refine wp_wanted hw fun K hK => ?_
  subst hvs
  have hk := hK _ _ h
  unfold Oper.wp execOp
  simp only [ho, Sem.run_bind, hv, Result.andThen_ok]
  exact hk
theorem wp_bld4 {t : TypeId} {i j k l : Nat} {x y z q : Operand} (hw : Region.wanted op (yielded ops a.tmps) = true) (ho : op.op = .build t #[(i, x), (j, y), (k, z), (l, q)]) {u1 u2 u3 u4 : Value} (h1 : a.eval x = u1) (h2 : a.eval y = u2) (h3 : a.eval z = u3) (h4 : a.eval q = u4) {v : Value}
    (hv : ∀ w, (Instr.build t #[(i, u1), (j, u2), (k, u3), (l, u4)]).run P w = .ok v w) (h : wpList P ops Q rest (a.put op.dst v) w) : wpList P ops Q (op :: rest) a w :=
  wp_bld hw ho (by simp [h1, h2, h3, h4]) hv h
end
/-- Where the parts of a rough number lie. -/
def roughAt : Array (Nat × Nat) := #[(0, 1), (1, 6), (7, 1), (8, 1)]
theorem rough_0 (neg : Bool) (s : Nat) (e : Int) (mo neg' : Bool) (rest : List (Nat × Value)) : Instr.fill (roughAt[·]?) (rough neg s e mo) ((0, .bool neg') :: rest) = Instr.fill (roughAt[·]?) (rough neg' s e mo) rest := fill_step _ _ 0 0 1 _ _ rfl rfl (show 0 + 1 ≤ 9 by decide)
theorem rough_1 (neg : Bool) (s : Nat) (e : Int) (mo : Bool) (s' : Nat) (rest : List (Nat × Value)) : Instr.fill (roughAt[·]?) (rough neg s e mo) ((1, W s') :: rest) = Instr.fill (roughAt[·]?) (rough neg s' e mo) rest := fill_step _ _ 1 1 6 _ _ rfl rfl (show 1 + 6 ≤ 9 by decide)
theorem rough_2 (neg : Bool) (s : Nat) (e : Int) (mo : Bool) (e' : Int) (rest : List (Nat × Value)) : Instr.fill (roughAt[·]?) (rough neg s e mo) ((2, .int .i64 e') :: rest) = Instr.fill (roughAt[·]?) (rough neg s e' mo) rest := fill_step _ _ 2 7 1 _ _ rfl rfl (show 7 + 1 ≤ 9 by decide)
theorem rough_3 (neg : Bool) (s : Nat) (e : Int) (mo mo' : Bool) (rest : List (Nat × Value)) : Instr.fill (roughAt[·]?) (rough neg s e mo) ((3, .bool mo') :: rest) = Instr.fill (roughAt[·]?) (rough neg s e mo') rest := fill_step _ _ 3 8 1 _ _ rfl rfl (show 8 + 1 ≤ 9 by decide)
theorem places_rough (w : World) : ∃ fs, Tryd.prog.underlying 92 = some (.struct fs) ∧ (fs.mapM fun f => do pure (f.offset, ← sizeOf f.type) : Sem (Array (Nat × Nat))).run Tryd.prog w = .ok roughAt w := by
  refine ⟨_, Tryd.underlying92, ?_⟩
  unfold roughAt
  go_simp
theorem run_rough (w : World) (ps : Array (Nat × Value)) (cs : Array Value) (hf : Instr.fill (roughAt[·]?) (rough false 0 0 false) ps.toList = some cs) : (Instr.build 92 ps).run Tryd.prog w = .ok (.agg cs) w := by
  obtain ⟨fs, hu, hp⟩ := places_rough w
  exact run_build rR hu hp ps cs hf
theorem rough_nsem (neg : Bool) (s : Nat) (e : Int) (mo : Bool) (w : World) : (Instr.build 92 #[(0, .bool neg), (1, W s), (2, .int .i64 e), (3, .bool mo)]).run Tryd.prog w = .ok (RV neg s e mo) w :=
  run_rough w _ _ (by show Instr.fill _ _ [_, _, _, _] = _; rw [rough_0, rough_1, rough_2, rough_3]; rfl)
end Go.Proofs.YtjgonofkklpgaaaDoor

namespace Go.Proofs.YtjgonofkklpgaaaDoor
open Go.RowKit
theorem subW_nat (x y d : Nat) (c : Bool) (hx : x < 18446744073709551616) (hy : y < 18446744073709551616) (hd : d < 18446744073709551616) (h : (d + y + c.toNat) % 18446744073709551616 = x) : subW (x : Int) (y : Int) c = (d : Int) := by
  unfold subW; cases c <;> simp at h ⊢ <;> omega
theorem borW_nat (x y d : Nat) (c : Bool) (hx : x < 18446744073709551616) (hy : y < 18446744073709551616) (hd : d < 18446744073709551616) (h : (d + y + c.toNat) % 18446744073709551616 = x) : borW (x : Int) (y : Int) c = decide (18446744073709551616 ≤ d + y + c.toNat) := by
  unfold borW; rw [Bool.eq_iff_iff, decide_eq_true_iff, decide_eq_true_iff]; cases c <;> simp at h ⊢ <;> omega
/-- The difference, as a number of 384 bits. -/
def subN (a b : Nat) : Nat := a + top6 - b
theorem limbN_top (a i : Nat) (h : i < 6) : limbN (a + top6) i = limbN a i := by
  have e : top6 = 2 ^ (64 * i) * (18446744073709551616 * 2 ^ (64 * (5 - i))) := by
    unfold top6
    rw [show 64 * 6 = 64 * i + (64 + 64 * (5 - i)) by omega, Nat.pow_add, Nat.pow_add]
  unfold limbN
  rw [e, Nat.add_mul_div_left _ _ (pw_pos i), Nat.add_mul_mod_self_left]
theorem sub_word (a b k : Nat) (hb : b < top6) (hk : k < 6) : (limbN (subN a b) k + limbN b k + (cbit (subN a b) b k).toNat) % 18446744073709551616 = limbN a k := by
  have h1 := sum_step (subN a b) b k
  rw [mod_low] at h1
  have e : subN a b + b = a + top6 := by unfold subN; omega
  have h2 : limbN (subN a b + b) k = limbN a k := by rw [e, limbN_top a k hk]
  rw [← h2]
  have h3 : limbN (subN a b + b) k * 2 ^ (64 * k) = (limbN (subN a b) k + limbN b k + (cbit (subN a b) b k).toNat) % 18446744073709551616 * 2 ^ (64 * k) := by omega
  exact (Nat.eq_of_mul_eq_mul_right (pw_pos k) h3).symm
theorem limbs_sub (a b : Nat) (h : b ≤ a) : limbs (subN a b) = limbs (a - b) := by
  apply limbs_eq
  intro i hi
  rw [← limbN_top (a - b) i hi]
  unfold subN
  rw [show a + top6 - b = a - b + top6 by omega]
theorem sub_limb (a b k : Nat) (cb : Bool) (hb : b < top6) (hk : k < 6) (h : cbit (subN a b) b k = cb) : subW (limb a k) (limb b k) cb = limb (subN a b) k := by
  unfold limb
  exact subW_nat _ _ _ _ (limbN_lt a k) (limbN_lt b k) (limbN_lt _ k) (by rw [← h]; exact sub_word a b k hb hk)
theorem sub_borrow (a b k : Nat) (cb : Bool) (hb : b < top6) (hk : k < 6) (h : cbit (subN a b) b k = cb) : cbit (subN a b) b (k + 1) = borW (limb a k) (limb b k) cb := by
  unfold limb
  rw [borW_nat _ _ _ _ (limbN_lt a k) (limbN_lt b k) (limbN_lt _ k) (by rw [← h]; exact sub_word a b k hb hk), cbit_step, h]
set_option maxHeartbeats 1600000 in
set_option maxRecDepth 100000 in
theorem wideSub_any (a b : Nat) (w : World) (hbt : b < top6) :
    Calls Tryd.prog 93 #[W a, W b] w fun e w' => e = .returned (.tuple #[W (subN a b), .bool (cbit (subN a b) b 6)]) ∧ Below w.heap.size w w' := by
  have HT := Lib.hid hbt
  clear hbt
  have sa := limbs_size a
  have sb := limbs_size b
  go_enter Tryd.func93, Tryd.ntmps93
  go_wp2_with fail
  go_loopw [5, 7] (fun c i wr => ∃ (k : Nat) (cb : Bool), k ≤ 6 ∧ i = .int .i64 k ∧ c = .bool cb ∧ Hid (cbit (subN a b) b k = cb) ∧
      Blk 35 wr w.heap.size (limbs a) ∧ Blk 35 wr (w.heap.size + 1) (limbs b) ∧
      Blk 35 wr (w.heap.size + 1 + 1) (fillTo (limbs 0) (fun i => .int .u64 (limb (subN a b) i)) k) ∧ Below w.heap.size w wr) (fun _ i _ => 6 - (intOf i).toNat)
  case atStart =>
    refine ⟨0, false, by omega, rfl, rfl, cbit_zero _ b, ((Blk.new w _).alloc _).alloc _, ?_, ?_, ((((Below.refl _ _).alloc (Nat.le_refl _) _).alloc (by simp) _).alloc (by simp <;> omega) _)⟩
    · have := (Blk.new (T := 35) (w.alloc (.cells (limbs a) 35)) (limbs b)).alloc (.cells #[.int .u64 0, .int .u64 0, .int .u64 0, .int .u64 0, .int .u64 0, .int .u64 0] 35)
      simpa using this
    · have := Blk.new (T := 35) ((w.alloc (.cells (limbs a) 35)).alloc (.cells (limbs b) 35)) #[.int .u64 0, .int .u64 0, .int .u64 0, .int .u64 0, .int .u64 0, .int .u64 0]
      rw [fillTo, limbs_zero]
      simpa using this
  case round =>
    obtain ⟨k, cb, hk, rfl, rfl, hc, ha, hb, hs, hbel⟩ := hrel
    by_cases hlt : k < 6
    · have ca := ha.cell k (limbs_get a k hlt)
      have cb' := hb.cell k (limbs_get b k hlt)
      have cs := hs.cell k ((fillTo_hi _ _ k k (Nat.le_refl _)).trans (limbs_get 0 k hlt))
      have fs := hs.free k
      go_wp2_with fail
      go_region_with (go_at_call 149; refine (wordSub_any _ _ _ _ (limb_w a k) (limb_w b k)).mono ?_; rintro e w' ⟨rfl, rfl⟩)
      all_goals go_wp2
      all_goals
        go_roundw
        case rel => exact ⟨k + 1, _, by omega, by go_num, rfl, sub_borrow a b k cb HT.out (by omega) hc.out, (ha.other _ _ (by simp; omega)).drew, (hb.other _ _ (by simp)).drew, (hs.set k _ (by rw [sub_limb a b k cb HT.out (by omega) hc.out]; rfl)).drew, (hbel.setCell (by simp; omega) _).drew⟩
        case measure => simp [intOf]; omega
    · have : k = 6 := by omega
      subst this
      rw [fillTo_all (limbs 0) _ (subN a b) rfl (fun i _ => rfl)] at hs
      have c0 := hs.cell 0 (limbs_get _ 0 (by decide))
      have c1 := hs.cell 1 (limbs_get _ 1 (by decide))
      have c2 := hs.cell 2 (limbs_get _ 2 (by decide))
      have c3 := hs.cell 3 (limbs_get _ 3 (by decide))
      have c4 := hs.cell 4 (limbs_get _ 4 (by decide))
      have c5 := hs.cell 5 (limbs_get _ 5 (by decide))
      have f0 := hs.free 0
      have f1 := hs.free 1
      have f2 := hs.free 2
      have f3 := hs.free 3
      have f4 := hs.free 4
      have f5 := hs.free 5
      clear ha hb hlt
      go_wp2_with fail
      rw [hs.keep 0 _ (limbs_get _ 0 (by decide)), hs.keep 1 _ (limbs_get _ 1 (by decide)), hs.keep 2 _ (limbs_get _ 2 (by decide)), hs.keep 3 _ (limbs_get _ 3 (by decide)), hs.keep 4 _ (limbs_get _ 4 (by decide)), hs.keep 5 _ (limbs_get _ 5 (by decide))]
      refine bodyPost_ret (v := .tuple #[W (subN a b), .bool cb]) (by simp [results, Tryd.results93, go_sem, c0, c1, c2, c3, c4, c5, limbs]) rfl ⟨by rw [hc.out], hbel⟩
end Go.Proofs.YtjgonofkklpgaaaDoor

namespace Go.Proofs.YtjgonofkklpgaaaDoor
open Go.RowKit
theorem div_step (a k : Nat) : a / 2 ^ (64 * k) = a / 2 ^ (64 * (k + 1)) * 18446744073709551616 + limbN a k := by
  unfold limbN
  rw [pw_succ, ← Nat.div_div_eq_div_mul]
  have := Nat.div_add_mod (a / 2 ^ (64 * k)) 18446744073709551616
  omega
theorem cmp_less (a b k : Nat) (h : a / 2 ^ (64 * (k + 1)) = b / 2 ^ (64 * (k + 1))) (hl : limbN a k < limbN b k) : a < b := by
  have h1 := div_step a k
  have h2 := div_step b k
  rw [h] at h1
  rcases Nat.lt_or_ge a b with hab | hab
  · exact hab
  · have := Nat.div_le_div_right (c := 2 ^ (64 * k)) hab
    omega
theorem cmp_same (a b k : Nat) (h : a / 2 ^ (64 * (k + 1)) = b / 2 ^ (64 * (k + 1))) (hl : limbN a k = limbN b k) : a / 2 ^ (64 * k) = b / 2 ^ (64 * k) := by
  rw [div_step a k, div_step b k, h, hl]
def EqFrom (a b k : Nat) : Prop := a / 2 ^ (64 * k) = b / 2 ^ (64 * k)
theorem eqFrom6 {a b : Nat} (ha : a < top6) (hb : b < top6) : EqFrom a b 6 := by
  unfold top6 at ha hb
  unfold EqFrom
  rw [Nat.div_eq_of_lt ha, Nat.div_eq_of_lt hb]
theorem below_drewN {B : Nat} {w w' : World} (h : Below B w w') (n : Nat) : Below B w (w'.drewN n) := ⟨h.os, h.tape, h.output, h.size, h.block⟩
theorem limb_lt (a b k : Nat) : limb a k < limb b k ↔ limbN a k < limbN b k := by unfold limb; omega
set_option maxHeartbeats 1600000 in
set_option maxRecDepth 100000 in
theorem wideCmp_any (a b : Nat) (w : World) (ha : a < top6) (hb : b < top6) :
    Calls Tryd.prog 54 #[W a, W b] w fun e w' => e = .returned (.int .i64 (cmpN a b)) ∧ Below w.heap.size w w' := by
  have sa := limbs_size a
  have sb := limbs_size b
  have E6 := eqFrom6 ha hb
  clear ha hb
  go_enter Tryd.func54, Tryd.ntmps54
  go_wp2_with fail
  go_loopw [5] (fun i wr => ∃ k : Nat, k ≤ 6 ∧ i = .int .i64 ((k : Int) - 1) ∧ EqFrom a b k ∧ Blk 35 wr w.heap.size (limbs a) ∧ Blk 35 wr (w.heap.size + 1) (limbs b) ∧ Below w.heap.size w wr) (fun i _ => (intOf i + 1).toNat)
  case atStart =>
    refine ⟨6, by omega, rfl, E6, (Blk.new w _).alloc _, ?_, ((Below.refl _ _).alloc (Nat.le_refl _) _).alloc (by simp) _⟩
    have := Blk.new (T := 35) (w.alloc (.cells (limbs a) 35)) (limbs b)
    simpa using this
  case round =>
    obtain ⟨k, hk, rfl, hE, hA, hB, hbel⟩ := hrel
    cases k with
    | zero =>
      have Z := Lib.hid (show (0 : Int) = cmpN a b by
        have : a = b := by have := hE; unfold EqFrom at this; simpa using this
        unfold cmpN; rw [if_neg (by omega), if_neg (by omega)])
      clear hE
      go_wp2_with fail
      go_ret
      exact ⟨ret_int Z.out, hbel⟩
    | succ j =>
      have ca := hA.cell j (limbs_get a j (by omega))
      have cb := hB.cell j (limbs_get b j (by omega))
      rw [show ((j + 1 : Nat) : Int) - 1 = (j : Int) by omega]
      by_cases h1 : limb a j < limb b j
      · have Z := Lib.hid (show (-1 : Int) = cmpN a b by
          have := cmp_less a b j hE ((limb_lt a b j).1 h1)
          unfold cmpN; rw [if_pos this])
        have d1 : decide (limb a j < limb b j) = true := decide_eq_true h1
        clear hE
        go_wp2_with fail
        go_quiet (fail)
        go_wp2_with fail
        go_ret
        exact ⟨ret_int Z.out, below_drewN hbel _⟩
      · have d1 : decide (limb a j < limb b j) = false := decide_eq_false h1
        by_cases h2 : limb b j < limb a j
        · have Z := Lib.hid (show (1 : Int) = cmpN a b by
            have := cmp_less b a j hE.symm ((limb_lt b a j).1 h2)
            unfold cmpN; rw [if_neg (by omega), if_pos this])
          have d2 : decide (limb b j < limb a j) = true := decide_eq_true h2
          clear hE h1
          go_wp2_with fail
          go_quiet (fail)
          go_wp2_with fail
          go_quiet (fail)
          go_wp2_with fail
          go_ret
          exact ⟨ret_int Z.out, below_drewN (below_drewN hbel _) _⟩
        · have d2 : decide (limb b j < limb a j) = false := decide_eq_false h2
          have S : EqFrom a b j := cmp_same a b j hE (by unfold limb at h1 h2; omega)
          clear hE h1 h2
          go_wp2_with fail
          go_quiet (fail)
          go_wp2_with fail
          go_quiet (fail)
          go_wp2_with fail
          go_roundw
          case rel => exact ⟨j, by omega, rfl, S, hA, hB, below_drewN hbel _⟩
          case measure => simp [intOf]
end Go.Proofs.YtjgonofkklpgaaaDoor

namespace Go.Proofs.YtjgonofkklpgaaaDoor
open Go.RowKit
theorem top_bit_n (R n : Nat) (h : R < 2 ^ (n + 1)) : R.testBit n = decide (2 ^ (n + 1) ≤ 2 * R) := by
  rw [Nat.testBit_eq_decide_div_mod_eq]
  have hq : R / 2 ^ n < 2 := by rw [Nat.div_lt_iff_lt_mul (two_pos n), Nat.mul_comm, ← Nat.pow_succ]; exact h
  have hm := Nat.div_add_mod R (2 ^ n)
  have hl := Nat.mod_lt R (two_pos n)
  rw [Nat.pow_succ] at h ⊢
  generalize 2 ^ n = P at hq hm hl h ⊢
  generalize R / P = z at *
  have : z = 0 ∨ z = 1 := by omega
  rcases this with h0 | h0
  · rw [h0, Nat.mul_zero] at hm
    rw [h0, decide_eq_false (by decide), decide_eq_false (by omega)]
  · rw [h0, Nat.mul_one] at hm
    rw [h0, decide_eq_true (by decide), decide_eq_true (by omega)]
theorem top6_pow (n : Nat) (h : n = 64 * 6) : top6 = 2 ^ n := by subst h; exact top6.eq_1
theorem top6_even_n (n : Nat) (h : n + 1 = 64 * 6) : ∃ t, top6 = 2 * t := ⟨2 ^ n, by rw [top6_pow (n + 1) h, Nat.pow_succ, Nat.mul_comm]⟩
theorem top6_even : ∃ t, top6 = 2 * t := top6_even_n 383 rfl
theorem top_bit_m (R n : Nat) (hn : n + 1 = 64 * 6) (h : R < top6) : R.testBit n = decide (top6 ≤ 2 * R) := by
  have := top_bit_n R n (by rw [← top6_pow (n + 1) hn]; exact h)
  rw [← top6_pow (n + 1) hn] at this; exact this
theorem top_bit (R : Nat) (h : R < top6) : R.testBit 383 = decide (top6 ≤ 2 * R) := top_bit_m R 383 rfl h
theorem bit_of (a m : Nat) : a.testBit m = decide (a / 2 ^ m % 2 = 1) := Nat.testBit_eq_decide_div_mod_eq
theorem dbl_or (R : Nat) : R * 2 ||| 1 = 2 * R + 1 := by rw [or_one]; omega
theorem dbl (R : Nat) : R * 2 = 2 * R := Nat.mul_comm _ _
theorem set_bit (q m qi s : Nat) (hm : m = 64 * qi + s) (hs : s < 64) (h : m < 384) : setRow (limbs q) qi (#[.int .u64 (Go.bits .or .u64 (limb q qi) (IntKind.u64.wrap (2 ^ s)))] : Array Value).toList = limbs (q ||| 2 ^ m) := by
  have h1 : m / 64 = qi := by omega
  have h2 : m % 64 = s := by omega
  have h64 : 2 ^ s < 18446744073709551616 := by rw [B64]; exact Nat.pow_lt_pow_right (by decide) hs
  have hw : IntKind.u64.wrap ((2 : Int) ^ s) = ((2 ^ s : Nat) : Int) := by
    rw [show (2 : Int) ^ s = ((2 ^ s : Nat) : Int) by simp]
    generalize 2 ^ s = p at h64 ⊢
    rw [IntKind.wrap_u64]; omega
  have := limbs_or_bit q m h
  rw [h1, h2] at this
  rw [hw]; exact this
set_option maxHeartbeats 3200000 in
set_option maxRecDepth 100000 in
theorem quotDiv_any (a b : Nat) (w0 : World) (ha : a < top6) (hb : b < top6) (hb0 : b ≠ 0) :
    Calls Tryd.prog 153 #[W a, W b] w0 fun e w' => e = .returned (.tuple #[W (a / b), W (a % b), .int .i64 0]) ∧ Below w0.heap.size w0 w' := by
  have H := Own.start w0
  have hl4 : lenN a ≤ 384 := (lenN_le a 384).2 (by rw [show 384 = 64 * 6 from rfl, ← top6.eq_1]; exact ha)
  have cN := fun w => wideLen_any a w ha
  have eq1 : ∀ w, (Op.equalIn 10000 35 (.agg (limbs b)) (.agg #[.int .u64 0, .int .u64 0, .int .u64 0, .int .u64 0, .int .u64 0, .int .u64 0])).run Tryd.prog w = .ok false w := fun w => (run_equal_zero w b hb).trans (by rw [decide_eq_false hb0])
  have HA := Lib.hid ha
  have HB := Lib.hid hb
  have HB0 := Lib.hid (Nat.pos_of_ne_zero hb0)
  clear ha hb hb0
  go_enter Tryd.func153, Tryd.ntmps153
  go_wp2_with (first
    | ((with_reducible show wpList _ _ _ (⟨some 2, .box _ _, _, _, _, _⟩ :: _) _ _); refine H.box rfl rfl (cells_agg _) ?_; (intro ga w H; simp only [Act.put, List.setIfInBounds_toArray, List.set_cons_zero, List.set_cons_succ]))
    | ((with_reducible show wpList _ _ _ (⟨some 3, .box _ _, _, _, _, _⟩ :: _) _ _); refine H.box rfl rfl (cells_agg _) ?_; (intro gb w H; simp only [Act.put, List.setIfInBounds_toArray, List.set_cons_zero, List.set_cons_succ]))
    | ((with_reducible show wpList _ _ _ (⟨some 4, .alloc 35, _, _, _, _⟩ :: _) _ _); refine H.mk0 rfl rW rfl ?_; (intro gq w H; simp only [Act.put, List.setIfInBounds_toArray, List.set_cons_zero, List.set_cons_succ]))
    | ((with_reducible show wpList _ _ _ (⟨some 5, .alloc 35, _, _, _, _⟩ :: _) _ _); refine H.mk0 rfl rW rfl ?_; (intro gr w H; simp only [Act.put, List.setIfInBounds_toArray, List.set_cons_zero, List.set_cons_succ]))
    | ((with_reducible show wpList _ _ _ (⟨_, .box _ _, _, _, _, _⟩ :: _) _ _); refine H.box rfl rfl (cells_agg _) ?_; (intro g w H; simp only [Act.put, List.setIfInBounds_toArray, List.set_cons_zero, List.set_cons_succ]))
    | ((with_reducible show wpList _ _ _ (⟨_, .alloc 35, _, _, _, _⟩ :: _) _ _); refine H.mk0 rfl rW rfl ?_; (intro g w H; simp only [Act.put, List.setIfInBounds_toArray, List.set_cons_zero, List.set_cons_succ]))
    | ((with_reducible show wpList _ _ _ (⟨_, .load 35 _, _, _, _, _⟩ :: _) _ _); refine H.ld rfl rW rfl rfl (by repeat (first | with_reducible exact List.mem_cons_self | apply List.mem_cons_of_mem)) (by first | with_reducible exact ext_limbs _ | with_reducible exact ext_parts_s _ _ _ _ | with_reducible exact ext_rough_s _ _ _ _ | with_reducible exact ext_parts_f _ _ _ _) (by rfl) ?_; simp only [Act.put, List.setIfInBounds_toArray, List.set_cons_zero, List.set_cons_succ])
    | ((with_reducible show wpList _ _ _ (⟨_, .load 24 _, _, _, _, _⟩ :: _) _ _); refine H.ld1 rfl oU rfl rfl (by repeat (first | with_reducible exact List.mem_cons_self | apply List.mem_cons_of_mem)) (by first | with_reducible exact get_20 _ _ | with_reducible exact get_21 _ _ | with_reducible exact limbs_o0 _ | with_reducible exact limbs_o1 _ | with_reducible exact limbs_o2 _ | with_reducible exact limbs_o3 _ | with_reducible exact limbs_o4 _ | with_reducible exact limbs_o5 _) ?_; simp only [Act.put, List.setIfInBounds_toArray, List.set_cons_zero, List.set_cons_succ])
    | ((with_reducible show wpList _ _ _ (⟨_, .store 35 _ _, _, _, _, _⟩ :: _) _ _); refine H.st rfl rW rfl rfl (cells_agg _) (by repeat (first | with_reducible exact Upd.head _ | apply Upd.tail)) (set_limbs _ _) (by rfl) (by exact one_of rfl) (by first | exact ble_le rfl | (change _ + 1 ≤ 12; omega) | (change _ + 1 ≤ 6; omega)) ?_; (intro w H; simp only [Act.put]))
    | ((with_reducible show wpList _ _ _ (⟨_, .store 24 _ _, _, _, _, _⟩ :: _) _ _); refine H.st1 rfl oU rfl rfl (cells_int _ _) (by repeat (first | with_reducible exact Upd.head _ | apply Upd.tail)) (set_or1 _) (by rfl) (by exact one_of rfl) (by first | exact ble_le rfl | (change _ + 1 ≤ 12; omega) | (change _ + 1 ≤ 6; omega)) ?_; (intro w H; simp only [Act.put]))
    | (go_at_call 101; ((with_reducible refine (cN _).mono ?_); rintro e w ⟨rfl, hb⟩; replace H := H.call hb; clear hb))
    )
  go_loopw [7] (fun i wr => ∃ (k : Nat) (e : Int), e + 1 = k ∧ k ≤ 384 ∧ i = .int .i64 e ∧ Own w0 wr [(gr, 35, limbs (a / 2 ^ k % b)), (gq, 35, limbs (a / 2 ^ k / b * 2 ^ k)), (gb, 35, limbs b), (ga, 35, limbs a)]) (fun i _ => (intOf i + 1).toNat)
  case atStart =>
    refine ⟨lenN a, (lenN a : Int) - 1, by omega, hl4, rfl, ?_⟩
    rw [Nat.div_eq_of_lt (lenN_lt a), Nat.zero_mod, Nat.zero_div, Nat.zero_mul]; exact H
  case round =>
    clear H
    obtain ⟨k, e, hke, hk, rfl, H⟩ := hrel
    by_cases h0 : k = 0
    · subst h0
      obtain rfl : e = -1 := by omega
      rw [Nat.pow_zero, Nat.div_one, Nat.mul_one] at H
      clear cN
      go_wp2_with (first
    | ((with_reducible show wpList _ _ _ (⟨some 2, .box _ _, _, _, _, _⟩ :: _) _ _); refine H.box rfl rfl (cells_agg _) ?_; (intro ga w H; simp only [Act.put, List.setIfInBounds_toArray, List.set_cons_zero, List.set_cons_succ]))
    | ((with_reducible show wpList _ _ _ (⟨some 3, .box _ _, _, _, _, _⟩ :: _) _ _); refine H.box rfl rfl (cells_agg _) ?_; (intro gb w H; simp only [Act.put, List.setIfInBounds_toArray, List.set_cons_zero, List.set_cons_succ]))
    | ((with_reducible show wpList _ _ _ (⟨some 4, .alloc 35, _, _, _, _⟩ :: _) _ _); refine H.mk0 rfl rW rfl ?_; (intro gq w H; simp only [Act.put, List.setIfInBounds_toArray, List.set_cons_zero, List.set_cons_succ]))
    | ((with_reducible show wpList _ _ _ (⟨some 5, .alloc 35, _, _, _, _⟩ :: _) _ _); refine H.mk0 rfl rW rfl ?_; (intro gr w H; simp only [Act.put, List.setIfInBounds_toArray, List.set_cons_zero, List.set_cons_succ]))
    | ((with_reducible show wpList _ _ _ (⟨_, .box _ _, _, _, _, _⟩ :: _) _ _); refine H.box rfl rfl (cells_agg _) ?_; (intro g w H; simp only [Act.put, List.setIfInBounds_toArray, List.set_cons_zero, List.set_cons_succ]))
    | ((with_reducible show wpList _ _ _ (⟨_, .alloc 35, _, _, _, _⟩ :: _) _ _); refine H.mk0 rfl rW rfl ?_; (intro g w H; simp only [Act.put, List.setIfInBounds_toArray, List.set_cons_zero, List.set_cons_succ]))
    | ((with_reducible show wpList _ _ _ (⟨_, .load 35 _, _, _, _, _⟩ :: _) _ _); refine H.ld rfl rW rfl rfl (by repeat (first | with_reducible exact List.mem_cons_self | apply List.mem_cons_of_mem)) (by first | with_reducible exact ext_limbs _ | with_reducible exact ext_parts_s _ _ _ _ | with_reducible exact ext_rough_s _ _ _ _ | with_reducible exact ext_parts_f _ _ _ _) (by rfl) ?_; simp only [Act.put, List.setIfInBounds_toArray, List.set_cons_zero, List.set_cons_succ])
    | ((with_reducible show wpList _ _ _ (⟨_, .load 24 _, _, _, _, _⟩ :: _) _ _); refine H.ld1 rfl oU rfl rfl (by repeat (first | with_reducible exact List.mem_cons_self | apply List.mem_cons_of_mem)) (by first | with_reducible exact get_20 _ _ | with_reducible exact get_21 _ _ | with_reducible exact limbs_o0 _ | with_reducible exact limbs_o1 _ | with_reducible exact limbs_o2 _ | with_reducible exact limbs_o3 _ | with_reducible exact limbs_o4 _ | with_reducible exact limbs_o5 _) ?_; simp only [Act.put, List.setIfInBounds_toArray, List.set_cons_zero, List.set_cons_succ])
    | ((with_reducible show wpList _ _ _ (⟨_, .store 35 _ _, _, _, _, _⟩ :: _) _ _); refine H.st rfl rW rfl rfl (cells_agg _) (by repeat (first | with_reducible exact Upd.head _ | apply Upd.tail)) (set_limbs _ _) (by rfl) (by exact one_of rfl) (by first | exact ble_le rfl | (change _ + 1 ≤ 12; omega) | (change _ + 1 ≤ 6; omega)) ?_; (intro w H; simp only [Act.put]))
    | ((with_reducible show wpList _ _ _ (⟨_, .store 24 _ _, _, _, _, _⟩ :: _) _ _); refine H.st1 rfl oU rfl rfl (cells_int _ _) (by repeat (first | with_reducible exact Upd.head _ | apply Upd.tail)) (set_or1 _) (by rfl) (by exact one_of rfl) (by first | exact ble_le rfl | (change _ + 1 ≤ 12; omega) | (change _ + 1 ≤ 6; omega)) ?_; (intro w H; simp only [Act.put]))
    | ((with_reducible show Code.wp _ (.region 13 _ true) _ _ _); refine H.heldSub rfl (List.Sublist.refl _) ?_; intro H; refine H.tk (by repeat (first | with_reducible exact List.Sublist.refl _ | with_reducible apply List.Sublist.cons_cons | with_reducible apply List.Sublist.cons)) 0 rfl (by kernel_rfl) (by kernel_rfl) (by kernel_rfl) (fun _ _ _ _ h => h) rfl rW rfl rfl (by repeat (first | with_reducible exact List.mem_cons_self | apply List.mem_cons_of_mem)) (by first | with_reducible exact ext_limbs _ | with_reducible exact ext_parts_s _ _ _ _ | with_reducible exact ext_rough_s _ _ _ _ | with_reducible exact ext_parts_f _ _ _ _) (by rfl) ?_; (try simp only [Act.put, List.setIfInBounds_toArray, List.set_cons_zero, List.set_cons_succ]); (try simp only [List.getElem_toArray, List.getElem_cons_zero, List.getElem_cons_succ]); refine H.tk (by repeat (first | with_reducible exact List.Sublist.refl _ | with_reducible apply List.Sublist.cons_cons | with_reducible apply List.Sublist.cons)) 1 rfl (by kernel_rfl) (by kernel_rfl) (by kernel_rfl) (fun _ _ _ _ h => h) rfl rW rfl rfl (by repeat (first | with_reducible exact List.mem_cons_self | apply List.mem_cons_of_mem)) (by first | with_reducible exact ext_limbs _ | with_reducible exact ext_parts_s _ _ _ _ | with_reducible exact ext_rough_s _ _ _ _ | with_reducible exact ext_parts_f _ _ _ _) (by rfl) ?_; (try simp only [Act.put, List.setIfInBounds_toArray, List.set_cons_zero, List.set_cons_succ]); (try simp only [List.getElem_toArray, List.getElem_cons_zero, List.getElem_cons_succ]); refine held_one (i := 2) (by kernel_rfl) rfl rfl ?_; refine H.ost rW rfl rfl (cells_agg _) (by repeat (first | with_reducible exact Upd.head _ | apply Upd.tail)) (set_limbs _ _) (by rfl) (by exact one_of rfl) (by first | exact ble_le rfl | (change _ + 1 ≤ 12; omega) | (change _ + 1 ≤ 6; omega)) ?_; intro w H; refine H.next (by repeat (first | with_reducible exact List.Sublist.refl _ | with_reducible apply List.Sublist.cons_cons | with_reducible apply List.Sublist.cons)) ?_; (try simp only [Act.put]); refine held_one (i := 3) (by kernel_rfl) rfl rfl ?_; refine H.ost rW rfl rfl (cells_agg _) (by repeat (first | with_reducible exact Upd.head _ | apply Upd.tail)) (set_limbs _ _) (by rfl) (by exact one_of rfl) (by first | exact ble_le rfl | (change _ + 1 ≤ 12; omega) | (change _ + 1 ≤ 6; omega)) ?_; intro w H; refine H.next (by repeat (first | with_reducible exact List.Sublist.refl _ | with_reducible apply List.Sublist.cons_cons | with_reducible apply List.Sublist.cons)) ?_; (try simp only [Act.put]); refine H.takeRun (by repeat (first | with_reducible exact List.Sublist.refl _ | with_reducible apply List.Sublist.cons_cons | with_reducible apply List.Sublist.cons)) 4 rfl (by kernel_rfl) (by kernel_rfl) (by kernel_rfl) (fun _ _ _ _ h => h) rfl (by intro w; go_simp; (try with_reducible rfl)) ?_; (try simp only [Act.put, List.setIfInBounds_toArray, List.set_cons_zero, List.set_cons_succ]); (try simp only [List.getElem_toArray, List.getElem_cons_zero, List.getElem_cons_succ]); refine wpAnyH_done (by kernel_rfl) ?_ _)
    )
      refine bodyPost_ret (results_cct rfl rfl (H.res rW (by repeat (first | with_reducible exact List.mem_cons_self | apply List.mem_cons_of_mem)) (ext_limbs _) (by rfl)) rfl (H.res rW (by repeat (first | with_reducible exact List.mem_cons_self | apply List.mem_cons_of_mem)) (ext_limbs _) (by rfl))) rfl ⟨?_, H.below⟩
      rfl
    · obtain ⟨m, rfl⟩ : ∃ m, k = m + 1 := ⟨k - 1, by omega⟩
      obtain rfl : e = (m : Int) := by omega
      have hR : a / 2 ^ (m + 1) % b < b := Nat.mod_lt _ HB0.out
      have hRt : a / 2 ^ (m + 1) % b < top6 := Nat.lt_trans hR HB.out
      obtain ⟨rd1, rd2⟩ := div_round a b m HB0.out
      have hor := or_bit (a / 2 ^ (m + 1) / b) m
      have hbit := bit_of a m
      have hd2 : a / 2 ^ m % 2 < 2 := Nat.mod_lt _ (by decide)
      generalize a / 2 ^ m % 2 = d at rd1 rd2 hbit hd2
      generalize hRR : a / 2 ^ (m + 1) % b = R at *
      generalize hQQ : a / 2 ^ (m + 1) / b * 2 ^ (m + 1) = q at *
      generalize hR2 : a / 2 ^ m % b = R2 at *
      generalize hQ2 : a / 2 ^ m / b * 2 ^ m = q2 at *
      have cT := fun w => wideBit_any R 383 w
      rw [show bitI R 383 = R.testBit 383 from bitI_in R 383 hRt, top_bit R hRt] at cT
      have cL := fun w => wideLeft_any R 1 w hRt
      rw [show clip 1 = 1 from rfl, Nat.pow_one] at cL
      have cB := fun w => wideBit_any a (m : Int) w
      rw [bitI_in a m HA.out, hbit] at cB
      obtain ⟨qi, hqi⟩ : ∃ qi : Nat, (m : Int) / 64 = qi := ⟨m / 64, by omega⟩
      obtain ⟨sh, hsh⟩ : ∃ sh : Nat, (m : Int) % 64 = sh := ⟨m % 64, by omega⟩
      have hm : m = 64 * qi + sh := by omega
      have hs64 : sh < 64 := by omega
      have HM := Lib.hid hm
      have hm384 : m < 384 := by omega
      have hq6 : qi < 6 := by omega
      clear hm
      have HRD1 := Lib.hid rd1
      have HRD2 := Lib.hid rd2
      have HOR := Lib.hid hor
      have HRt := Lib.hid hRt
      have HbT := HB.out
      have HR2 := Lib.hid hR2
      have HQ2 := Lib.hid hQ2
      clear rd1 rd2 hor hbit hRR hQQ hR2 hQ2 hR hRt cN h0
      have G : (limbs q)[qi]? = some (.int .u64 (limb q qi)) := limbs_get q qi hq6
      by_cases hd : d = 1
      · subst hd
        rw [decide_eq_true (by decide)] at cB
        by_cases ht : top6 ≤ 2 * R
        · rw [decide_eq_true ht] at cT
          have hge : b ≤ 2 * R + 1 := by omega
          have E1 := Lib.hid (show limbs R2 = limbs (subN (R * 2 ||| 1) b) by rw [(HRD1.out (by omega)).2, limbs_sub _ _ (by rw [dbl_or R]; omega), dbl_or R])
          have E2 := Lib.hid (show limbs q2 = limbs (q ||| 2 ^ m) by rw [(HRD1.out (by omega)).1, HOR.out])
          have cS := fun w => wideSub_any (R * 2 ||| 1) b w HbT
          clear HRD1 HRD2 HOR hge HbT ht
          go_wp2_with (first
    | ((with_reducible show wpList _ _ _ (⟨some 2, .box _ _, _, _, _, _⟩ :: _) _ _); refine H.box rfl rfl (cells_agg _) ?_; (intro ga w H; simp only [Act.put, List.setIfInBounds_toArray, List.set_cons_zero, List.set_cons_succ]))
    | ((with_reducible show wpList _ _ _ (⟨some 3, .box _ _, _, _, _, _⟩ :: _) _ _); refine H.box rfl rfl (cells_agg _) ?_; (intro gb w H; simp only [Act.put, List.setIfInBounds_toArray, List.set_cons_zero, List.set_cons_succ]))
    | ((with_reducible show wpList _ _ _ (⟨some 4, .alloc 35, _, _, _, _⟩ :: _) _ _); refine H.mk0 rfl rW rfl ?_; (intro gq w H; simp only [Act.put, List.setIfInBounds_toArray, List.set_cons_zero, List.set_cons_succ]))
    | ((with_reducible show wpList _ _ _ (⟨some 5, .alloc 35, _, _, _, _⟩ :: _) _ _); refine H.mk0 rfl rW rfl ?_; (intro gr w H; simp only [Act.put, List.setIfInBounds_toArray, List.set_cons_zero, List.set_cons_succ]))
    | ((with_reducible show wpList _ _ _ (⟨_, .box _ _, _, _, _, _⟩ :: _) _ _); refine H.box rfl rfl (cells_agg _) ?_; (intro g w H; simp only [Act.put, List.setIfInBounds_toArray, List.set_cons_zero, List.set_cons_succ]))
    | ((with_reducible show wpList _ _ _ (⟨_, .alloc 35, _, _, _, _⟩ :: _) _ _); refine H.mk0 rfl rW rfl ?_; (intro g w H; simp only [Act.put, List.setIfInBounds_toArray, List.set_cons_zero, List.set_cons_succ]))
    | ((with_reducible show wpList _ _ _ (⟨_, .load 35 _, _, _, _, _⟩ :: _) _ _); refine H.ld rfl rW rfl rfl (by repeat (first | with_reducible exact List.mem_cons_self | apply List.mem_cons_of_mem)) (by first | with_reducible exact ext_limbs _ | with_reducible exact ext_parts_s _ _ _ _ | with_reducible exact ext_rough_s _ _ _ _ | with_reducible exact ext_parts_f _ _ _ _) (by rfl) ?_; simp only [Act.put, List.setIfInBounds_toArray, List.set_cons_zero, List.set_cons_succ])
    | ((with_reducible show wpList _ _ _ (⟨_, .load 24 _, _, _, _, _⟩ :: _) _ _); refine H.ld1 rfl oU rfl rfl (by repeat (first | with_reducible exact List.mem_cons_self | apply List.mem_cons_of_mem)) (by first | with_reducible exact G | with_reducible exact get_20 _ _ | with_reducible exact get_21 _ _ | with_reducible exact limbs_o0 _ | with_reducible exact limbs_o1 _ | with_reducible exact limbs_o2 _ | with_reducible exact limbs_o3 _ | with_reducible exact limbs_o4 _ | with_reducible exact limbs_o5 _) ?_; simp only [Act.put, List.setIfInBounds_toArray, List.set_cons_zero, List.set_cons_succ])
    | ((with_reducible show wpList _ _ _ (⟨_, .store 35 _ _, _, _, _, _⟩ :: _) _ _); refine H.st rfl rW rfl rfl (cells_agg _) (by repeat (first | with_reducible exact Upd.head _ | apply Upd.tail)) (set_limbs _ _) (by rfl) (by exact one_of rfl) (by first | exact ble_le rfl | (change _ + 1 ≤ 12; omega) | (change _ + 1 ≤ 6; omega)) ?_; (intro w H; simp only [Act.put]))
    | ((with_reducible show wpList _ _ _ (⟨_, .store 24 (.tmp 34) _, _, _, _, _⟩ :: _) _ _); refine H.st1 rfl oU rfl rfl (cells_int _ _) (by repeat (first | with_reducible exact Upd.head _ | apply Upd.tail)) (set_or1 _) (by rfl) (by exact one_of rfl) (by first | exact ble_le rfl | (change _ + 1 ≤ 12; omega) | (change _ + 1 ≤ 6; omega)) ?_; (intro w H; simp only [Act.put]))
    | ((with_reducible show wpList _ _ _ (⟨_, .store 24 (.tmp 57) _, _, _, _, _⟩ :: _) _ _); refine H.st1 rfl oU rfl rfl (cells_int _ _) (by repeat (first | with_reducible exact Upd.head _ | apply Upd.tail)) (set_bit _ m _ _ HM.out hs64 hm384) (by rfl) (by exact one_of rfl) (by first | exact ble_le rfl | (change _ + 1 ≤ 12; omega) | (change _ + 1 ≤ 6; omega)) ?_; (intro w H; simp only [Act.put]))
    | (go_at_call 94; ((with_reducible refine (cT _).mono ?_); rintro e w ⟨rfl, hb⟩; replace H := H.call hb; clear hb))
    | (go_at_call 57; ((with_reducible refine (cL _).mono ?_); rintro e w ⟨rfl, hb⟩; replace H := H.call hb; clear hb))
    | (go_at_call 94; ((with_reducible refine (cB _).mono ?_); rintro e w ⟨rfl, hb⟩; replace H := H.call hb; clear hb))
    | (go_at_call 93; ((with_reducible refine (cS _).mono ?_); rintro e w ⟨rfl, hb⟩; replace H := H.call hb; clear hb))
    )
          all_goals
            go_roundw
            case rel => exact ⟨m, (m : Int) - 1, by omega, by omega, by go_num, by rw [HR2.out, HQ2.out, E1.out, E2.out]; exact H⟩
            case measure => simp [intOf] <;> omega
        · rw [decide_eq_false ht] at cT
          have cC := fun w => wideCmp_any (R * 2 ||| 1) b w (by rw [dbl_or R]; obtain ⟨t, ht6⟩ := top6_even; omega) HbT
          by_cases hge : b ≤ 2 * R + 1
          · have hc : decide (0 ≤ cmpN (R * 2 ||| 1) b) = true := by unfold cmpN; rw [dbl_or R, if_neg (by omega)]; split <;> decide
            have E1 := Lib.hid (show limbs R2 = limbs (subN (R * 2 ||| 1) b) by rw [(HRD1.out (by omega)).2, limbs_sub _ _ (by rw [dbl_or R]; omega), dbl_or R])
            have E2 := Lib.hid (show limbs q2 = limbs (q ||| 2 ^ m) by rw [(HRD1.out (by omega)).1, HOR.out])
            have cS := fun w => wideSub_any (R * 2 ||| 1) b w HbT
            clear HRD1 HRD2 HOR hge HbT ht
            go_wp2_with (first
    | ((with_reducible show wpList _ _ _ (⟨some 2, .box _ _, _, _, _, _⟩ :: _) _ _); refine H.box rfl rfl (cells_agg _) ?_; (intro ga w H; simp only [Act.put, List.setIfInBounds_toArray, List.set_cons_zero, List.set_cons_succ]))
    | ((with_reducible show wpList _ _ _ (⟨some 3, .box _ _, _, _, _, _⟩ :: _) _ _); refine H.box rfl rfl (cells_agg _) ?_; (intro gb w H; simp only [Act.put, List.setIfInBounds_toArray, List.set_cons_zero, List.set_cons_succ]))
    | ((with_reducible show wpList _ _ _ (⟨some 4, .alloc 35, _, _, _, _⟩ :: _) _ _); refine H.mk0 rfl rW rfl ?_; (intro gq w H; simp only [Act.put, List.setIfInBounds_toArray, List.set_cons_zero, List.set_cons_succ]))
    | ((with_reducible show wpList _ _ _ (⟨some 5, .alloc 35, _, _, _, _⟩ :: _) _ _); refine H.mk0 rfl rW rfl ?_; (intro gr w H; simp only [Act.put, List.setIfInBounds_toArray, List.set_cons_zero, List.set_cons_succ]))
    | ((with_reducible show wpList _ _ _ (⟨_, .box _ _, _, _, _, _⟩ :: _) _ _); refine H.box rfl rfl (cells_agg _) ?_; (intro g w H; simp only [Act.put, List.setIfInBounds_toArray, List.set_cons_zero, List.set_cons_succ]))
    | ((with_reducible show wpList _ _ _ (⟨_, .alloc 35, _, _, _, _⟩ :: _) _ _); refine H.mk0 rfl rW rfl ?_; (intro g w H; simp only [Act.put, List.setIfInBounds_toArray, List.set_cons_zero, List.set_cons_succ]))
    | ((with_reducible show wpList _ _ _ (⟨_, .load 35 _, _, _, _, _⟩ :: _) _ _); refine H.ld rfl rW rfl rfl (by repeat (first | with_reducible exact List.mem_cons_self | apply List.mem_cons_of_mem)) (by first | with_reducible exact ext_limbs _ | with_reducible exact ext_parts_s _ _ _ _ | with_reducible exact ext_rough_s _ _ _ _ | with_reducible exact ext_parts_f _ _ _ _) (by rfl) ?_; simp only [Act.put, List.setIfInBounds_toArray, List.set_cons_zero, List.set_cons_succ])
    | ((with_reducible show wpList _ _ _ (⟨_, .load 24 _, _, _, _, _⟩ :: _) _ _); refine H.ld1 rfl oU rfl rfl (by repeat (first | with_reducible exact List.mem_cons_self | apply List.mem_cons_of_mem)) (by first | with_reducible exact G | with_reducible exact get_20 _ _ | with_reducible exact get_21 _ _ | with_reducible exact limbs_o0 _ | with_reducible exact limbs_o1 _ | with_reducible exact limbs_o2 _ | with_reducible exact limbs_o3 _ | with_reducible exact limbs_o4 _ | with_reducible exact limbs_o5 _) ?_; simp only [Act.put, List.setIfInBounds_toArray, List.set_cons_zero, List.set_cons_succ])
    | ((with_reducible show wpList _ _ _ (⟨_, .store 35 _ _, _, _, _, _⟩ :: _) _ _); refine H.st rfl rW rfl rfl (cells_agg _) (by repeat (first | with_reducible exact Upd.head _ | apply Upd.tail)) (set_limbs _ _) (by rfl) (by exact one_of rfl) (by first | exact ble_le rfl | (change _ + 1 ≤ 12; omega) | (change _ + 1 ≤ 6; omega)) ?_; (intro w H; simp only [Act.put]))
    | ((with_reducible show wpList _ _ _ (⟨_, .store 24 (.tmp 34) _, _, _, _, _⟩ :: _) _ _); refine H.st1 rfl oU rfl rfl (cells_int _ _) (by repeat (first | with_reducible exact Upd.head _ | apply Upd.tail)) (set_or1 _) (by rfl) (by exact one_of rfl) (by first | exact ble_le rfl | (change _ + 1 ≤ 12; omega) | (change _ + 1 ≤ 6; omega)) ?_; (intro w H; simp only [Act.put]))
    | ((with_reducible show wpList _ _ _ (⟨_, .store 24 (.tmp 57) _, _, _, _, _⟩ :: _) _ _); refine H.st1 rfl oU rfl rfl (cells_int _ _) (by repeat (first | with_reducible exact Upd.head _ | apply Upd.tail)) (set_bit _ m _ _ HM.out hs64 hm384) (by rfl) (by exact one_of rfl) (by first | exact ble_le rfl | (change _ + 1 ≤ 12; omega) | (change _ + 1 ≤ 6; omega)) ?_; (intro w H; simp only [Act.put]))
    | (go_at_call 94; ((with_reducible refine (cT _).mono ?_); rintro e w ⟨rfl, hb⟩; replace H := H.call hb; clear hb))
    | (go_at_call 57; ((with_reducible refine (cL _).mono ?_); rintro e w ⟨rfl, hb⟩; replace H := H.call hb; clear hb))
    | (go_at_call 94; ((with_reducible refine (cB _).mono ?_); rintro e w ⟨rfl, hb⟩; replace H := H.call hb; clear hb))
    | (go_at_call 54; ((with_reducible refine (cC _).mono ?_); rintro e w ⟨rfl, hb⟩; replace H := H.call hb; clear hb))
    | (go_at_call 93; ((with_reducible refine (cS _).mono ?_); rintro e w ⟨rfl, hb⟩; replace H := H.call hb; clear hb))
    )
            all_goals
              go_roundw
              case rel => exact ⟨m, (m : Int) - 1, by omega, by omega, by go_num, by rw [HR2.out, HQ2.out, E1.out, E2.out]; exact H⟩
              case measure => simp [intOf] <;> omega
          · have hc : decide (0 ≤ cmpN (R * 2 ||| 1) b) = false := by unfold cmpN; rw [dbl_or R, if_pos (by omega)]; decide
            have E1 := Lib.hid (show limbs R2 = limbs (R * 2 ||| 1) by rw [(HRD2.out (by omega)).2, dbl_or R])
            have E2 := Lib.hid (show limbs q2 = limbs q by rw [(HRD2.out (by omega)).1])
            clear HRD1 HRD2 HOR hge HbT ht
            go_wp2_with (first
    | ((with_reducible show wpList _ _ _ (⟨some 2, .box _ _, _, _, _, _⟩ :: _) _ _); refine H.box rfl rfl (cells_agg _) ?_; (intro ga w H; simp only [Act.put, List.setIfInBounds_toArray, List.set_cons_zero, List.set_cons_succ]))
    | ((with_reducible show wpList _ _ _ (⟨some 3, .box _ _, _, _, _, _⟩ :: _) _ _); refine H.box rfl rfl (cells_agg _) ?_; (intro gb w H; simp only [Act.put, List.setIfInBounds_toArray, List.set_cons_zero, List.set_cons_succ]))
    | ((with_reducible show wpList _ _ _ (⟨some 4, .alloc 35, _, _, _, _⟩ :: _) _ _); refine H.mk0 rfl rW rfl ?_; (intro gq w H; simp only [Act.put, List.setIfInBounds_toArray, List.set_cons_zero, List.set_cons_succ]))
    | ((with_reducible show wpList _ _ _ (⟨some 5, .alloc 35, _, _, _, _⟩ :: _) _ _); refine H.mk0 rfl rW rfl ?_; (intro gr w H; simp only [Act.put, List.setIfInBounds_toArray, List.set_cons_zero, List.set_cons_succ]))
    | ((with_reducible show wpList _ _ _ (⟨_, .box _ _, _, _, _, _⟩ :: _) _ _); refine H.box rfl rfl (cells_agg _) ?_; (intro g w H; simp only [Act.put, List.setIfInBounds_toArray, List.set_cons_zero, List.set_cons_succ]))
    | ((with_reducible show wpList _ _ _ (⟨_, .alloc 35, _, _, _, _⟩ :: _) _ _); refine H.mk0 rfl rW rfl ?_; (intro g w H; simp only [Act.put, List.setIfInBounds_toArray, List.set_cons_zero, List.set_cons_succ]))
    | ((with_reducible show wpList _ _ _ (⟨_, .load 35 _, _, _, _, _⟩ :: _) _ _); refine H.ld rfl rW rfl rfl (by repeat (first | with_reducible exact List.mem_cons_self | apply List.mem_cons_of_mem)) (by first | with_reducible exact ext_limbs _ | with_reducible exact ext_parts_s _ _ _ _ | with_reducible exact ext_rough_s _ _ _ _ | with_reducible exact ext_parts_f _ _ _ _) (by rfl) ?_; simp only [Act.put, List.setIfInBounds_toArray, List.set_cons_zero, List.set_cons_succ])
    | ((with_reducible show wpList _ _ _ (⟨_, .load 24 _, _, _, _, _⟩ :: _) _ _); refine H.ld1 rfl oU rfl rfl (by repeat (first | with_reducible exact List.mem_cons_self | apply List.mem_cons_of_mem)) (by first | with_reducible exact G | with_reducible exact get_20 _ _ | with_reducible exact get_21 _ _ | with_reducible exact limbs_o0 _ | with_reducible exact limbs_o1 _ | with_reducible exact limbs_o2 _ | with_reducible exact limbs_o3 _ | with_reducible exact limbs_o4 _ | with_reducible exact limbs_o5 _) ?_; simp only [Act.put, List.setIfInBounds_toArray, List.set_cons_zero, List.set_cons_succ])
    | ((with_reducible show wpList _ _ _ (⟨_, .store 35 _ _, _, _, _, _⟩ :: _) _ _); refine H.st rfl rW rfl rfl (cells_agg _) (by repeat (first | with_reducible exact Upd.head _ | apply Upd.tail)) (set_limbs _ _) (by rfl) (by exact one_of rfl) (by first | exact ble_le rfl | (change _ + 1 ≤ 12; omega) | (change _ + 1 ≤ 6; omega)) ?_; (intro w H; simp only [Act.put]))
    | ((with_reducible show wpList _ _ _ (⟨_, .store 24 (.tmp 34) _, _, _, _, _⟩ :: _) _ _); refine H.st1 rfl oU rfl rfl (cells_int _ _) (by repeat (first | with_reducible exact Upd.head _ | apply Upd.tail)) (set_or1 _) (by rfl) (by exact one_of rfl) (by first | exact ble_le rfl | (change _ + 1 ≤ 12; omega) | (change _ + 1 ≤ 6; omega)) ?_; (intro w H; simp only [Act.put]))
    | ((with_reducible show wpList _ _ _ (⟨_, .store 24 (.tmp 57) _, _, _, _, _⟩ :: _) _ _); refine H.st1 rfl oU rfl rfl (cells_int _ _) (by repeat (first | with_reducible exact Upd.head _ | apply Upd.tail)) (set_bit _ m _ _ HM.out hs64 hm384) (by rfl) (by exact one_of rfl) (by first | exact ble_le rfl | (change _ + 1 ≤ 12; omega) | (change _ + 1 ≤ 6; omega)) ?_; (intro w H; simp only [Act.put]))
    | (go_at_call 94; ((with_reducible refine (cT _).mono ?_); rintro e w ⟨rfl, hb⟩; replace H := H.call hb; clear hb))
    | (go_at_call 57; ((with_reducible refine (cL _).mono ?_); rintro e w ⟨rfl, hb⟩; replace H := H.call hb; clear hb))
    | (go_at_call 94; ((with_reducible refine (cB _).mono ?_); rintro e w ⟨rfl, hb⟩; replace H := H.call hb; clear hb))
    | (go_at_call 54; ((with_reducible refine (cC _).mono ?_); rintro e w ⟨rfl, hb⟩; replace H := H.call hb; clear hb))
    )
            all_goals
              go_roundw
              case rel => exact ⟨m, (m : Int) - 1, by omega, by omega, by go_num, by rw [HR2.out, HQ2.out, E1.out, E2.out]; exact H⟩
              case measure => simp [intOf] <;> omega
      · obtain rfl : d = 0 := by omega
        rw [decide_eq_false (by decide)] at cB
        by_cases ht : top6 ≤ 2 * R
        · rw [decide_eq_true ht] at cT
          have hge : b ≤ 2 * R := by omega
          have E1 := Lib.hid (show limbs R2 = limbs (subN (R * 2) b) by rw [(HRD1.out (by omega)).2, limbs_sub _ _ (by rw [dbl R]; omega), dbl R]; rfl)
          have E2 := Lib.hid (show limbs q2 = limbs (q ||| 2 ^ m) by rw [(HRD1.out (by omega)).1, HOR.out])
          have cS := fun w => wideSub_any (R * 2) b w HbT
          clear HRD1 HRD2 HOR hge HbT ht
          go_wp2_with (first
    | ((with_reducible show wpList _ _ _ (⟨some 2, .box _ _, _, _, _, _⟩ :: _) _ _); refine H.box rfl rfl (cells_agg _) ?_; (intro ga w H; simp only [Act.put, List.setIfInBounds_toArray, List.set_cons_zero, List.set_cons_succ]))
    | ((with_reducible show wpList _ _ _ (⟨some 3, .box _ _, _, _, _, _⟩ :: _) _ _); refine H.box rfl rfl (cells_agg _) ?_; (intro gb w H; simp only [Act.put, List.setIfInBounds_toArray, List.set_cons_zero, List.set_cons_succ]))
    | ((with_reducible show wpList _ _ _ (⟨some 4, .alloc 35, _, _, _, _⟩ :: _) _ _); refine H.mk0 rfl rW rfl ?_; (intro gq w H; simp only [Act.put, List.setIfInBounds_toArray, List.set_cons_zero, List.set_cons_succ]))
    | ((with_reducible show wpList _ _ _ (⟨some 5, .alloc 35, _, _, _, _⟩ :: _) _ _); refine H.mk0 rfl rW rfl ?_; (intro gr w H; simp only [Act.put, List.setIfInBounds_toArray, List.set_cons_zero, List.set_cons_succ]))
    | ((with_reducible show wpList _ _ _ (⟨_, .box _ _, _, _, _, _⟩ :: _) _ _); refine H.box rfl rfl (cells_agg _) ?_; (intro g w H; simp only [Act.put, List.setIfInBounds_toArray, List.set_cons_zero, List.set_cons_succ]))
    | ((with_reducible show wpList _ _ _ (⟨_, .alloc 35, _, _, _, _⟩ :: _) _ _); refine H.mk0 rfl rW rfl ?_; (intro g w H; simp only [Act.put, List.setIfInBounds_toArray, List.set_cons_zero, List.set_cons_succ]))
    | ((with_reducible show wpList _ _ _ (⟨_, .load 35 _, _, _, _, _⟩ :: _) _ _); refine H.ld rfl rW rfl rfl (by repeat (first | with_reducible exact List.mem_cons_self | apply List.mem_cons_of_mem)) (by first | with_reducible exact ext_limbs _ | with_reducible exact ext_parts_s _ _ _ _ | with_reducible exact ext_rough_s _ _ _ _ | with_reducible exact ext_parts_f _ _ _ _) (by rfl) ?_; simp only [Act.put, List.setIfInBounds_toArray, List.set_cons_zero, List.set_cons_succ])
    | ((with_reducible show wpList _ _ _ (⟨_, .load 24 _, _, _, _, _⟩ :: _) _ _); refine H.ld1 rfl oU rfl rfl (by repeat (first | with_reducible exact List.mem_cons_self | apply List.mem_cons_of_mem)) (by first | with_reducible exact G | with_reducible exact get_20 _ _ | with_reducible exact get_21 _ _ | with_reducible exact limbs_o0 _ | with_reducible exact limbs_o1 _ | with_reducible exact limbs_o2 _ | with_reducible exact limbs_o3 _ | with_reducible exact limbs_o4 _ | with_reducible exact limbs_o5 _) ?_; simp only [Act.put, List.setIfInBounds_toArray, List.set_cons_zero, List.set_cons_succ])
    | ((with_reducible show wpList _ _ _ (⟨_, .store 35 _ _, _, _, _, _⟩ :: _) _ _); refine H.st rfl rW rfl rfl (cells_agg _) (by repeat (first | with_reducible exact Upd.head _ | apply Upd.tail)) (set_limbs _ _) (by rfl) (by exact one_of rfl) (by first | exact ble_le rfl | (change _ + 1 ≤ 12; omega) | (change _ + 1 ≤ 6; omega)) ?_; (intro w H; simp only [Act.put]))
    | ((with_reducible show wpList _ _ _ (⟨_, .store 24 (.tmp 34) _, _, _, _, _⟩ :: _) _ _); refine H.st1 rfl oU rfl rfl (cells_int _ _) (by repeat (first | with_reducible exact Upd.head _ | apply Upd.tail)) (set_or1 _) (by rfl) (by exact one_of rfl) (by first | exact ble_le rfl | (change _ + 1 ≤ 12; omega) | (change _ + 1 ≤ 6; omega)) ?_; (intro w H; simp only [Act.put]))
    | ((with_reducible show wpList _ _ _ (⟨_, .store 24 (.tmp 57) _, _, _, _, _⟩ :: _) _ _); refine H.st1 rfl oU rfl rfl (cells_int _ _) (by repeat (first | with_reducible exact Upd.head _ | apply Upd.tail)) (set_bit _ m _ _ HM.out hs64 hm384) (by rfl) (by exact one_of rfl) (by first | exact ble_le rfl | (change _ + 1 ≤ 12; omega) | (change _ + 1 ≤ 6; omega)) ?_; (intro w H; simp only [Act.put]))
    | (go_at_call 94; ((with_reducible refine (cT _).mono ?_); rintro e w ⟨rfl, hb⟩; replace H := H.call hb; clear hb))
    | (go_at_call 57; ((with_reducible refine (cL _).mono ?_); rintro e w ⟨rfl, hb⟩; replace H := H.call hb; clear hb))
    | (go_at_call 94; ((with_reducible refine (cB _).mono ?_); rintro e w ⟨rfl, hb⟩; replace H := H.call hb; clear hb))
    | (go_at_call 93; ((with_reducible refine (cS _).mono ?_); rintro e w ⟨rfl, hb⟩; replace H := H.call hb; clear hb))
    )
          all_goals
            go_roundw
            case rel => exact ⟨m, (m : Int) - 1, by omega, by omega, by go_num, by rw [HR2.out, HQ2.out, E1.out, E2.out]; exact H⟩
            case measure => simp [intOf] <;> omega
        · rw [decide_eq_false ht] at cT
          have cC := fun w => wideCmp_any (R * 2) b w (by rw [dbl R]; obtain ⟨t, ht6⟩ := top6_even; omega) HbT
          by_cases hge : b ≤ 2 * R
          · have hc : decide (0 ≤ cmpN (R * 2) b) = true := by unfold cmpN; rw [dbl R, if_neg (by omega)]; split <;> decide
            have E1 := Lib.hid (show limbs R2 = limbs (subN (R * 2) b) by rw [(HRD1.out (by omega)).2, limbs_sub _ _ (by rw [dbl R]; omega), dbl R]; rfl)
            have E2 := Lib.hid (show limbs q2 = limbs (q ||| 2 ^ m) by rw [(HRD1.out (by omega)).1, HOR.out])
            have cS := fun w => wideSub_any (R * 2) b w HbT
            clear HRD1 HRD2 HOR hge HbT ht
            go_wp2_with (first
    | ((with_reducible show wpList _ _ _ (⟨some 2, .box _ _, _, _, _, _⟩ :: _) _ _); refine H.box rfl rfl (cells_agg _) ?_; (intro ga w H; simp only [Act.put, List.setIfInBounds_toArray, List.set_cons_zero, List.set_cons_succ]))
    | ((with_reducible show wpList _ _ _ (⟨some 3, .box _ _, _, _, _, _⟩ :: _) _ _); refine H.box rfl rfl (cells_agg _) ?_; (intro gb w H; simp only [Act.put, List.setIfInBounds_toArray, List.set_cons_zero, List.set_cons_succ]))
    | ((with_reducible show wpList _ _ _ (⟨some 4, .alloc 35, _, _, _, _⟩ :: _) _ _); refine H.mk0 rfl rW rfl ?_; (intro gq w H; simp only [Act.put, List.setIfInBounds_toArray, List.set_cons_zero, List.set_cons_succ]))
    | ((with_reducible show wpList _ _ _ (⟨some 5, .alloc 35, _, _, _, _⟩ :: _) _ _); refine H.mk0 rfl rW rfl ?_; (intro gr w H; simp only [Act.put, List.setIfInBounds_toArray, List.set_cons_zero, List.set_cons_succ]))
    | ((with_reducible show wpList _ _ _ (⟨_, .box _ _, _, _, _, _⟩ :: _) _ _); refine H.box rfl rfl (cells_agg _) ?_; (intro g w H; simp only [Act.put, List.setIfInBounds_toArray, List.set_cons_zero, List.set_cons_succ]))
    | ((with_reducible show wpList _ _ _ (⟨_, .alloc 35, _, _, _, _⟩ :: _) _ _); refine H.mk0 rfl rW rfl ?_; (intro g w H; simp only [Act.put, List.setIfInBounds_toArray, List.set_cons_zero, List.set_cons_succ]))
    | ((with_reducible show wpList _ _ _ (⟨_, .load 35 _, _, _, _, _⟩ :: _) _ _); refine H.ld rfl rW rfl rfl (by repeat (first | with_reducible exact List.mem_cons_self | apply List.mem_cons_of_mem)) (by first | with_reducible exact ext_limbs _ | with_reducible exact ext_parts_s _ _ _ _ | with_reducible exact ext_rough_s _ _ _ _ | with_reducible exact ext_parts_f _ _ _ _) (by rfl) ?_; simp only [Act.put, List.setIfInBounds_toArray, List.set_cons_zero, List.set_cons_succ])
    | ((with_reducible show wpList _ _ _ (⟨_, .load 24 _, _, _, _, _⟩ :: _) _ _); refine H.ld1 rfl oU rfl rfl (by repeat (first | with_reducible exact List.mem_cons_self | apply List.mem_cons_of_mem)) (by first | with_reducible exact G | with_reducible exact get_20 _ _ | with_reducible exact get_21 _ _ | with_reducible exact limbs_o0 _ | with_reducible exact limbs_o1 _ | with_reducible exact limbs_o2 _ | with_reducible exact limbs_o3 _ | with_reducible exact limbs_o4 _ | with_reducible exact limbs_o5 _) ?_; simp only [Act.put, List.setIfInBounds_toArray, List.set_cons_zero, List.set_cons_succ])
    | ((with_reducible show wpList _ _ _ (⟨_, .store 35 _ _, _, _, _, _⟩ :: _) _ _); refine H.st rfl rW rfl rfl (cells_agg _) (by repeat (first | with_reducible exact Upd.head _ | apply Upd.tail)) (set_limbs _ _) (by rfl) (by exact one_of rfl) (by first | exact ble_le rfl | (change _ + 1 ≤ 12; omega) | (change _ + 1 ≤ 6; omega)) ?_; (intro w H; simp only [Act.put]))
    | ((with_reducible show wpList _ _ _ (⟨_, .store 24 (.tmp 34) _, _, _, _, _⟩ :: _) _ _); refine H.st1 rfl oU rfl rfl (cells_int _ _) (by repeat (first | with_reducible exact Upd.head _ | apply Upd.tail)) (set_or1 _) (by rfl) (by exact one_of rfl) (by first | exact ble_le rfl | (change _ + 1 ≤ 12; omega) | (change _ + 1 ≤ 6; omega)) ?_; (intro w H; simp only [Act.put]))
    | ((with_reducible show wpList _ _ _ (⟨_, .store 24 (.tmp 57) _, _, _, _, _⟩ :: _) _ _); refine H.st1 rfl oU rfl rfl (cells_int _ _) (by repeat (first | with_reducible exact Upd.head _ | apply Upd.tail)) (set_bit _ m _ _ HM.out hs64 hm384) (by rfl) (by exact one_of rfl) (by first | exact ble_le rfl | (change _ + 1 ≤ 12; omega) | (change _ + 1 ≤ 6; omega)) ?_; (intro w H; simp only [Act.put]))
    | (go_at_call 94; ((with_reducible refine (cT _).mono ?_); rintro e w ⟨rfl, hb⟩; replace H := H.call hb; clear hb))
    | (go_at_call 57; ((with_reducible refine (cL _).mono ?_); rintro e w ⟨rfl, hb⟩; replace H := H.call hb; clear hb))
    | (go_at_call 94; ((with_reducible refine (cB _).mono ?_); rintro e w ⟨rfl, hb⟩; replace H := H.call hb; clear hb))
    | (go_at_call 54; ((with_reducible refine (cC _).mono ?_); rintro e w ⟨rfl, hb⟩; replace H := H.call hb; clear hb))
    | (go_at_call 93; ((with_reducible refine (cS _).mono ?_); rintro e w ⟨rfl, hb⟩; replace H := H.call hb; clear hb))
    )
            all_goals
              go_roundw
              case rel => exact ⟨m, (m : Int) - 1, by omega, by omega, by go_num, by rw [HR2.out, HQ2.out, E1.out, E2.out]; exact H⟩
              case measure => simp [intOf] <;> omega
          · have hc : decide (0 ≤ cmpN (R * 2) b) = false := by unfold cmpN; rw [dbl R, if_pos (by omega)]; decide
            have E1 := Lib.hid (show limbs R2 = limbs (R * 2) by rw [(HRD2.out (by omega)).2, dbl R]; rfl)
            have E2 := Lib.hid (show limbs q2 = limbs q by rw [(HRD2.out (by omega)).1])
            clear HRD1 HRD2 HOR hge HbT ht
            go_wp2_with (first
    | ((with_reducible show wpList _ _ _ (⟨some 2, .box _ _, _, _, _, _⟩ :: _) _ _); refine H.box rfl rfl (cells_agg _) ?_; (intro ga w H; simp only [Act.put, List.setIfInBounds_toArray, List.set_cons_zero, List.set_cons_succ]))
    | ((with_reducible show wpList _ _ _ (⟨some 3, .box _ _, _, _, _, _⟩ :: _) _ _); refine H.box rfl rfl (cells_agg _) ?_; (intro gb w H; simp only [Act.put, List.setIfInBounds_toArray, List.set_cons_zero, List.set_cons_succ]))
    | ((with_reducible show wpList _ _ _ (⟨some 4, .alloc 35, _, _, _, _⟩ :: _) _ _); refine H.mk0 rfl rW rfl ?_; (intro gq w H; simp only [Act.put, List.setIfInBounds_toArray, List.set_cons_zero, List.set_cons_succ]))
    | ((with_reducible show wpList _ _ _ (⟨some 5, .alloc 35, _, _, _, _⟩ :: _) _ _); refine H.mk0 rfl rW rfl ?_; (intro gr w H; simp only [Act.put, List.setIfInBounds_toArray, List.set_cons_zero, List.set_cons_succ]))
    | ((with_reducible show wpList _ _ _ (⟨_, .box _ _, _, _, _, _⟩ :: _) _ _); refine H.box rfl rfl (cells_agg _) ?_; (intro g w H; simp only [Act.put, List.setIfInBounds_toArray, List.set_cons_zero, List.set_cons_succ]))
    | ((with_reducible show wpList _ _ _ (⟨_, .alloc 35, _, _, _, _⟩ :: _) _ _); refine H.mk0 rfl rW rfl ?_; (intro g w H; simp only [Act.put, List.setIfInBounds_toArray, List.set_cons_zero, List.set_cons_succ]))
    | ((with_reducible show wpList _ _ _ (⟨_, .load 35 _, _, _, _, _⟩ :: _) _ _); refine H.ld rfl rW rfl rfl (by repeat (first | with_reducible exact List.mem_cons_self | apply List.mem_cons_of_mem)) (by first | with_reducible exact ext_limbs _ | with_reducible exact ext_parts_s _ _ _ _ | with_reducible exact ext_rough_s _ _ _ _ | with_reducible exact ext_parts_f _ _ _ _) (by rfl) ?_; simp only [Act.put, List.setIfInBounds_toArray, List.set_cons_zero, List.set_cons_succ])
    | ((with_reducible show wpList _ _ _ (⟨_, .load 24 _, _, _, _, _⟩ :: _) _ _); refine H.ld1 rfl oU rfl rfl (by repeat (first | with_reducible exact List.mem_cons_self | apply List.mem_cons_of_mem)) (by first | with_reducible exact G | with_reducible exact get_20 _ _ | with_reducible exact get_21 _ _ | with_reducible exact limbs_o0 _ | with_reducible exact limbs_o1 _ | with_reducible exact limbs_o2 _ | with_reducible exact limbs_o3 _ | with_reducible exact limbs_o4 _ | with_reducible exact limbs_o5 _) ?_; simp only [Act.put, List.setIfInBounds_toArray, List.set_cons_zero, List.set_cons_succ])
    | ((with_reducible show wpList _ _ _ (⟨_, .store 35 _ _, _, _, _, _⟩ :: _) _ _); refine H.st rfl rW rfl rfl (cells_agg _) (by repeat (first | with_reducible exact Upd.head _ | apply Upd.tail)) (set_limbs _ _) (by rfl) (by exact one_of rfl) (by first | exact ble_le rfl | (change _ + 1 ≤ 12; omega) | (change _ + 1 ≤ 6; omega)) ?_; (intro w H; simp only [Act.put]))
    | ((with_reducible show wpList _ _ _ (⟨_, .store 24 (.tmp 34) _, _, _, _, _⟩ :: _) _ _); refine H.st1 rfl oU rfl rfl (cells_int _ _) (by repeat (first | with_reducible exact Upd.head _ | apply Upd.tail)) (set_or1 _) (by rfl) (by exact one_of rfl) (by first | exact ble_le rfl | (change _ + 1 ≤ 12; omega) | (change _ + 1 ≤ 6; omega)) ?_; (intro w H; simp only [Act.put]))
    | ((with_reducible show wpList _ _ _ (⟨_, .store 24 (.tmp 57) _, _, _, _, _⟩ :: _) _ _); refine H.st1 rfl oU rfl rfl (cells_int _ _) (by repeat (first | with_reducible exact Upd.head _ | apply Upd.tail)) (set_bit _ m _ _ HM.out hs64 hm384) (by rfl) (by exact one_of rfl) (by first | exact ble_le rfl | (change _ + 1 ≤ 12; omega) | (change _ + 1 ≤ 6; omega)) ?_; (intro w H; simp only [Act.put]))
    | (go_at_call 94; ((with_reducible refine (cT _).mono ?_); rintro e w ⟨rfl, hb⟩; replace H := H.call hb; clear hb))
    | (go_at_call 57; ((with_reducible refine (cL _).mono ?_); rintro e w ⟨rfl, hb⟩; replace H := H.call hb; clear hb))
    | (go_at_call 94; ((with_reducible refine (cB _).mono ?_); rintro e w ⟨rfl, hb⟩; replace H := H.call hb; clear hb))
    | (go_at_call 54; ((with_reducible refine (cC _).mono ?_); rintro e w ⟨rfl, hb⟩; replace H := H.call hb; clear hb))
    )
            all_goals
              go_roundw
              case rel => exact ⟨m, (m : Int) - 1, by omega, by omega, by go_num, by rw [HR2.out, HQ2.out, E1.out, E2.out]; exact H⟩
              case measure => simp [intOf] <;> omega
end Go.Proofs.YtjgonofkklpgaaaDoor

namespace Go.Proofs.YtjgonofkklpgaaaDoor
open Go.RowKit
theorem quotDigits_any (a b : Nat) (n : Int) (w : World) (hn : 0 ≤ n) (hn2 : n ≤ 384) (ha : a < top6) (hb : b < top6) (hb0 : b ≠ 0) (hx : a * 2 ^ n.toNat < top6) :
    Calls Tryd.prog 102 #[W a, W b, .int .i64 n] w fun e w' => e = .returned (.tuple #[W (a * 2 ^ n.toNat / b), .bool (!decide (a * 2 ^ n.toNat % b = 0)), .int .i64 0]) ∧ Below w.heap.size w w' := by
  have cL := fun w => wideLeft_any a n w ha
  have hc : clip n = n.toNat := by unfold clip; omega
  have hlo : lostL a n.toNat = false := by rw [lostL_iff, decide_eq_false_iff_not]; omega
  rw [hc, hlo] at cL
  exact quotDigits_ok a b _ _ _ n w hn hn2 hb (decide_eq_false hb0) (Nat.lt_trans (Nat.mod_lt _ (Nat.pos_of_ne_zero hb0)) hb) cL (fun w => quotDiv_any _ b w hx hb hb0)
end Go.Proofs.YtjgonofkklpgaaaDoor
