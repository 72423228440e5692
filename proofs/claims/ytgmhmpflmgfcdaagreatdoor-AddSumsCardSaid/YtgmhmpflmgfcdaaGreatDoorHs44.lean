/- Part 44 of what is proved: Adj. -/
import Derived.Test.YtgmhmpflmgfcdaaGreatDoorHs4
import Derived.Test.YtgmhmpflmgfcdaaGreatDoorHs36
import Derived.Test.YtgmhmpflmgfcdaaGreatDoorHs41
import Derived.Test.YtgmhmpflmgfcdaaGreatDoorHs42
import Derived.Test.YtgmhmpflmgfcdaaGreatDoorHs43
set_option linter.unusedSimpArgs false
set_option linter.unusedVariables false
set_option linter.unnecessarySimpa false
set_option maxRecDepth 100000
set_option maxHeartbeats 3200000
namespace Go.Proofs.YtgmhmpflmgfcdaaGreatDoor
open Go.RowKit
theorem addOpen_any (f m a b : Nat) (hf : f < 256) (hm : m < 256) (ha : a < 2 ^ (64 * 2)) (hb : b < 2 ^ (64 * 2)) :
  ∃ c1 s1 f1 x1 c2 s2 f2 x2, (binOk f m a b = true → c1 = clsN f a ∧ s1 = sigN f a ∧ x1 = xpN f a ∧ f1 = frN f a ∧ c2 = clsN f b ∧ s2 = sigN f b ∧ x2 = xpN f b ∧ f2 = frN f b) ∧
  ∀ (w : World) (g : Nat), Tab w → Blk 27 w g (cat2 (bc a) (bc b)) → CR_ 96 #[.int .u8 f, .int .u8 m, .slice (some ⟨g, 0, none⟩) 2 2] w (.tuple #[.agg (tri c1 s1 x1 f1 c2 s2 x2 f2 0 0 0 0), .bool (binOk f m a b)]) := by
 have cM := fun w => shapeCheckMode_any m w hm
 have cF := fun w => shapeCheck_any f w hf
 by_cases hm5 : m < 5
 case neg =>
  have e : binOk f m a b = false := by unfold binOk; rw [decide_eq_false hm5]; simp
  rw [decide_eq_false hm5] at cM
  rw [e]
  exact ⟨0, 0, 0, 0, 0, 0, 0, 0, (fun h => by cases h), fun w g _ hB => add_open2_mode f m a b w g hB cM⟩
 rw [decide_eq_true hm5] at cM
 by_cases hf4 : f < 4
 case neg =>
  have e : binOk f m a b = false := by unfold binOk; rw [decide_eq_false hf4]; simp
  rw [decide_eq_false hf4] at cF
  rw [e]
  exact ⟨0, 0, 0, 0, 0, 0, 0, 0, (fun h => by cases h), fun w g _ hB => add_open2_form f m a b w g hB cM cF⟩
 rw [decide_eq_true hf4] at cF
 cases ha' : fitsB f a
 ·have e : binOk f m a b = false := by unfold binOk; rw [ha']; simp
  rw [e]
  exact ⟨0, 0, 0, 0, 0, 0, 0, 0, (fun h => by cases h), fun w g hT hB => add_open2_no0 f m a b w hT g hB cM cF (fun w _ => kindUnpack_not f a w ha ha')⟩
 cases hb' : fitsB f b
 ·have e : binOk f m a b = false := by unfold binOk; rw [hb']; simp
  rw [e]
  exact ⟨_, _, _, _, 0, 0, 0, 0, (fun h => by cases h), fun w g hT hB => add_open2_no1 f m a b w hT g hB cM cF (fun w hT => kindUnpack_yes f a w ha' hT) (fun w _ => kindUnpack_not f b w hb hb')⟩
 have e : binOk f m a b = true := by unfold binOk; rw [ha', hb', decide_eq_true hm5, decide_eq_true hf4]; rfl
 rw [e]
 exact ⟨_, _, _, _, _, _, _, _, fun _ => ⟨rfl, rfl, rfl, rfl, rfl, rfl, rfl, rfl⟩, fun w g hT hB => add_open2_ok f m a b w hT g hB cM cF (fun w hT => kindUnpack_yes f a w ha' hT) (fun w hT => kindUnpack_yes f b w hb' hT)⟩
theorem addAdd_any (f m a b : Nat) (w : World) (hf : f < 256) (hm : m < 256) (ha : a < 2 ^ (64 * 2)) (hb : b < 2 ^ (64 * 2)) (hT : Tab w) :
  CR_ 26 #[.int .u8 f, .int .u8 m, BV a, BV b] w (.tuple #[BV (addN f m a b).1, .int .u8 ((addN f m a b).2.1 : Nat), .int .i64 (addN f m a b).2.2]) := by
 obtain ⟨c1, s1, f1, x1, c2, s2, f2, x2, hv, cO⟩ := addOpen_any f m a b hf hm ha hb
 cases hok : binOk f m a b
 ·have hN : addN f m a b = (0, 0, 2) := by unfold addN; rw [hok]; rfl
  rw [hok] at cO
  rw [hN]
  exact addAdd_no f m a b _ _ _ _ _ _ _ _ _ _ _ _ w hT cO
 obtain ⟨rfl, rfl, rfl, rfl, rfl, rfl, rfl, rfl⟩ := hv hok
 have hN : addN f m a b = ((addR f m a b).1, (addR f m a b).2, 0) := by unfold addN; rw [hok]; rfl
 rw [hN]
 rw [hok] at cO
 obtain ⟨⟨hf4', hm5'⟩, hfa, hfb⟩ : (decide (f < 4) = true ∧ decide (m < 5) = true) ∧ fitsB f a = true ∧ fitsB f b = true := by unfold binOk at hok; simp only [Bool.and_eq_true] at hok; exact hok
 have hf4 := of_decide_eq_true hf4'
 have hm5 := of_decide_eq_true hm5'
 have cb1 := fun w => add_below (clsN f a) (sigN f a) (frN f a) (xpN f a) w
 have cb2 := fun w => add_below (clsN f b) (sigN f b) (frN f b) (xpN f b) w
 have cn1 := fun w => add_nan (clsN f a) (sigN f a) (frN f a) (xpN f a) w
 have cn2 := fun w => add_nan (clsN f b) (sigN f b) (frN f b) (xpN f b) w
 have ci1 := fun w => add_inf (clsN f a) (sigN f a) (frN f a) (xpN f a) w
 have ci2 := fun w => add_inf (clsN f b) (sigN f b) (frN f b) (xpN f b) w
 have cz1 := fun w => add_nought (clsN f a) (sigN f a) (frN f a) (xpN f a) w
 have cz2 := fun w => add_nought (clsN f b) (sigN f b) (frN f b) (xpN f b) w
 have cN := fun w => shapeNaN_any f w hf
 have cC := fun w g hB => add_canon f (clsN f a) (sigN f a) (frN f a) (xpN f a) (clsN f b) (sigN f b) (frN f b) (xpN f b) w g hB cN
 have cZ := fun w => shapeZero_any f (decide (m = 2)) w hf
 have em : ((m : Int) == 2) = decide (m = 2) := cast_beq m 2
 rw [← em] at cZ
 unfold addR canonR
 rw [← em]
 cases h1 : nanB (clsN f a)
 case true =>
  rw [h1] at cn1
  rw [canon_flag] at cC
  exact addAdd_N1 f m a b _ _ _ _ _ _ _ _ 0 0 0 0 w hT cO cn1 _ _ cC
 rw [h1] at cn1
 cases h2 : nanB (clsN f b)
 case true =>
  rw [h2] at cn2
  rw [canon_flag] at cC
  exact addAdd_N2 f m a b _ _ _ _ _ _ _ _ 0 0 0 0 w hT cO cn1 cn2 _ _ cC
 rw [h2] at cn2
 have hc := cast_beq (clsN f a) (clsN f b)
 cases i1 : infB (clsN f a) <;> cases z1 : zerB (clsN f a) <;> cases i2 : infB (clsN f b) <;> cases z2 : zerB (clsN f b) <;> rw [i1] at ci1 <;> rw [z1] at cz1 <;> rw [i2] at ci2 <;> rw [z2] at cz2
 ·(
  obtain ⟨g1, g2⟩ := xpN_bound f a hfa
  obtain ⟨g3, g4⟩ := xpN_bound f b hfb
  have qa := sigN_113 f a hfa
  have qb := sigN_113 f b hfb
  have ta := lt_113_6 _ _ (by decide) qa
  have tb := lt_113_6 _ _ (by decide) qb
  have na := sig_ne f a hfa h1 i1 z1
  have nb := sig_ne f b hfb h2 i2 z2
  simp only [Bool.or_self, Bool.false_eq_true, if_false, Bool.and_self, Bool.false_and]
  (try rw [em])
  rw [em] at cZ
  have cZ : ∀ w, CR_ 78 #[.int .u8 f, .bool ((m : Int) == 2)] w (BV (zeroN f (decide (m = 2)))) := by rw [em]; exact cZ
  by_cases hs : xpN f a < xpN f b
  ·(
   have hle : xpN f a ≤ xpN f b := by omega
   have hcore := add_core f m (belowN4 (clsN f b)) (sigN f b) (xpN f b) (belowN4 (clsN f a)) (sigN f a) (xpN f a) hf4 nb na qa hle
   have hup : min (xpN f b - xpN f a) 200 = ((addUp (xpN f b) (xpN f a) : Nat) : Int) := by unfold addUp; omega
   obtain ⟨u, hu⟩ : ∃ u, addUp (xpN f b) (xpN f a) = u := ⟨_, rfl⟩
   rw [hu] at hcore hup
   have hu2 : u ≤ 200 := by omega
   have cL1 := fun w => wideLeft_n (sigN f b) (min (xpN f b - xpN f a) 200) w tb
   rw [show (min (xpN f b - xpN f a) 200).toNat = u by omega] at cL1
   have b1 := mul_pow_lt (sigN f b) 113 u qb
   have b2 := mul_pow_lt _ _ 2 b1
   have b3 := mul_pow_lt (sigN f a) 113 2 qa
   have cL3 := fun w => wideLeft_n (sigN f b * 2 ^ u) 2 w (lt_113_6 _ _ (by omega) b1)
   have cL2 := fun w => wideLeft_n (sigN f a) 2 w ta
   rw [show (2 : Int).toNat = 2 from rfl] at cL2 cL3
   have cJ := fun w hT => jamRight_any (sigN f a * 2 ^ 2) (xpN f b - min (xpN f b - xpN f a) 200 - xpN f a) w (lt_113_6 _ _ (by decide) b3) hT
   have b4 := jamN_lt (sigN f a * 2 ^ 2) (xpN f b - min (xpN f b - xpN f a) 200 - xpN f a).toNat (113 + 2) (by decide) b3
   have hE : xpN f b - min (xpN f b - xpN f a) 200 - 2 = xpN f b - u - 2 := by rw [hup]
   have hjk : (xpN f b - min (xpN f b - xpN f a) 200 - xpN f a).toNat = (xpN f b - u - xpN f a).toNat := by rw [hup]
   rw [hjk] at cJ b4
   have hS0 : sigN f b * 2 ^ u * 2 ^ 2 ≠ 0 := by
    have := Nat.pos_of_ne_zero nb
    exact Nat.ne_of_gt (Nat.mul_pos (Nat.mul_pos this (two_pos _)) (by decide))
   obtain ⟨S, hS⟩ : ∃ S, sigN f b * 2 ^ u * 2 ^ 2 = S := ⟨_, rfl⟩
   obtain ⟨t, ht⟩ : ∃ t, jamN (sigN f a * 2 ^ 2) (xpN f b - u - xpN f a).toNat = t := ⟨_, rfl⟩
   rw [hS] at b2 cL3 hcore hS0
   rw [ht] at cJ b4 hcore
   have tS := Lib.hid (lt_up S (113 + u + 2) 315 b2 (by clear b1 b2 b3 b4; omega))
   have tt := Lib.hid (lt_up t (113 + 2) 315 b4 (by decide))
   have cK := fun neg s (hs : s < 2 ^ 316) w hT => roundPack_any f m s (xpN f b - min (xpN f b - xpN f a) 200 - 2) neg false w hT hf hm (lt_113_6 _ _ (by decide) hs)
   have hP := fun neg s (hs : s ≠ 0) => pack_ok f m s neg (xpN f b - min (xpN f b - xpN f a) 200 - 2) hf4 hm5 (by omega) (by omega) hs
   rw [sumX_swap]; rw [← hcore]
   rw [← hE]
   unfold sumJ
   by_cases hne : belowN4 (clsN f b) = belowN4 (clsN f a)
   ·rw [if_pos hne]
    have cA := fun w => wideAdd_any S t w
    have k := cK (belowN4 (clsN f b)) (S + t) (add_lt_pow2 S t 315 316 rfl tS.out tt.out)
    rw [hP _ _ (add_ne S t hS0)] at k
    exact addAdd_FF1_same f m a b _ _ _ _ _ _ _ _ 0 0 0 0 w hT cO cn1 cn2 ci1 ci2 cz1 cz2 g1 g2 g3 g4 hs _ _ _ _ _ _ _ _ _ cb1 cb2 cL1 cL2 cL3 cJ (beq_iff_eq.2 hne) _ _ _ _ _ k cA
   ·rw [if_neg hne]
    have hb : (belowN4 (clsN f b) == belowN4 (clsN f a)) = false := beq_eq_false_iff_ne.2 hne
    have tS6 := lt_113_6 _ _ (by decide) tS.out
    have tt6 := lt_113_6 _ _ (by decide) tt.out
    have cC' := fun w => wideCmp_any S t w tS6 tt6
    by_cases hst : S = t
    ·rw [if_pos hst]
     rw [show cmpN S t = 0 by unfold cmpN; rw [if_neg (by omega), if_neg (by omega)]] at cC'
     exact addAdd_FF1_zero f m a b _ _ _ _ _ _ _ _ 0 0 0 0 w hT cO cn1 cn2 ci1 ci2 cz1 cz2 g1 g2 g3 g4 hs _ _ _ _ _ _ _ _ _ cb1 cb2 cL1 cL2 cL3 cJ hb cC' _ cZ
    ·rw [if_neg hst]
     by_cases hlt : t < S
     ·rw [if_pos hlt]
      rw [show cmpN S t = 1 by unfold cmpN; rw [if_neg (by omega), if_pos hlt]] at cC'
      have cS := fun w => wideSub_any S t w tt6
      unfold W at cS
      rw [limbs_sub S t (Nat.le_of_lt hlt)] at cS
      have k := cK (belowN4 (clsN f b)) (S - t) (sub_lt_pow2 S t 315 316 rfl tS.out)
      rw [hP _ _ (sub_ne S t hlt)] at k
      exact addAdd_FF1_more f m a b _ _ _ _ _ _ _ _ 0 0 0 0 w hT cO cn1 cn2 ci1 ci2 cz1 cz2 g1 g2 g3 g4 hs _ _ _ _ _ _ _ _ _ cb1 cb2 cL1 cL2 cL3 cJ hb cC' _ _ _ _ _ k cS
     ·rw [if_neg hlt]
      rw [show cmpN S t = -1 by unfold cmpN; rw [if_pos (by omega)]] at cC'
      have cS := fun w => wideSub_any t S w tS6
      unfold W at cS
      rw [limbs_sub t S (by omega)] at cS
      have k := cK (belowN4 (clsN f a)) (t - S) (sub_lt_pow2 t S 315 316 rfl tt.out)
      rw [hP _ _ (sub_ne t S (by clear tS tt b2 b4; omega))] at k
      exact addAdd_FF1_less f m a b _ _ _ _ _ _ _ _ 0 0 0 0 w hT cO cn1 cn2 ci1 ci2 cz1 cz2 g1 g2 g3 g4 hs _ _ _ _ _ _ _ _ _ cb1 cb2 cL1 cL2 cL3 cJ hb cC' _ _ _ _ _ k cS)
  ·(
   have hle : xpN f b ≤ xpN f a := by omega
   have hcore := add_core f m (belowN4 (clsN f a)) (sigN f a) (xpN f a) (belowN4 (clsN f b)) (sigN f b) (xpN f b) hf4 na nb qb hle
   have hup : min (xpN f a - xpN f b) 200 = ((addUp (xpN f a) (xpN f b) : Nat) : Int) := by unfold addUp; omega
   obtain ⟨u, hu⟩ : ∃ u, addUp (xpN f a) (xpN f b) = u := ⟨_, rfl⟩
   rw [hu] at hcore hup
   have hu2 : u ≤ 200 := by omega
   have cL1 := fun w => wideLeft_n (sigN f a) (min (xpN f a - xpN f b) 200) w ta
   rw [show (min (xpN f a - xpN f b) 200).toNat = u by omega] at cL1
   have b1 := mul_pow_lt (sigN f a) 113 u qa
   have b2 := mul_pow_lt _ _ 2 b1
   have b3 := mul_pow_lt (sigN f b) 113 2 qb
   have cL3 := fun w => wideLeft_n (sigN f a * 2 ^ u) 2 w (lt_113_6 _ _ (by omega) b1)
   have cL2 := fun w => wideLeft_n (sigN f b) 2 w tb
   rw [show (2 : Int).toNat = 2 from rfl] at cL2 cL3
   have cJ := fun w hT => jamRight_any (sigN f b * 2 ^ 2) (xpN f a - min (xpN f a - xpN f b) 200 - xpN f b) w (lt_113_6 _ _ (by decide) b3) hT
   have b4 := jamN_lt (sigN f b * 2 ^ 2) (xpN f a - min (xpN f a - xpN f b) 200 - xpN f b).toNat (113 + 2) (by decide) b3
   have hE : xpN f a - min (xpN f a - xpN f b) 200 - 2 = xpN f a - u - 2 := by rw [hup]
   have hjk : (xpN f a - min (xpN f a - xpN f b) 200 - xpN f b).toNat = (xpN f a - u - xpN f b).toNat := by rw [hup]
   rw [hjk] at cJ b4
   have hS0 : sigN f a * 2 ^ u * 2 ^ 2 ≠ 0 := by
    have := Nat.pos_of_ne_zero na
    exact Nat.ne_of_gt (Nat.mul_pos (Nat.mul_pos this (two_pos _)) (by decide))
   obtain ⟨S, hS⟩ : ∃ S, sigN f a * 2 ^ u * 2 ^ 2 = S := ⟨_, rfl⟩
   obtain ⟨t, ht⟩ : ∃ t, jamN (sigN f b * 2 ^ 2) (xpN f a - u - xpN f b).toNat = t := ⟨_, rfl⟩
   rw [hS] at b2 cL3 hcore hS0
   rw [ht] at cJ b4 hcore
   have tS := Lib.hid (lt_up S (113 + u + 2) 315 b2 (by clear b1 b2 b3 b4; omega))
   have tt := Lib.hid (lt_up t (113 + 2) 315 b4 (by decide))
   have cK := fun neg s (hs : s < 2 ^ 316) w hT => roundPack_any f m s (xpN f a - min (xpN f a - xpN f b) 200 - 2) neg false w hT hf hm (lt_113_6 _ _ (by decide) hs)
   have hP := fun neg s (hs : s ≠ 0) => pack_ok f m s neg (xpN f a - min (xpN f a - xpN f b) 200 - 2) hf4 hm5 (by omega) (by omega) hs
   rw [← hcore]
   rw [← hE]
   unfold sumJ
   by_cases hne : belowN4 (clsN f a) = belowN4 (clsN f b)
   ·rw [if_pos hne]
    have cA := fun w => wideAdd_any S t w
    have k := cK (belowN4 (clsN f a)) (S + t) (add_lt_pow2 S t 315 316 rfl tS.out tt.out)
    rw [hP _ _ (add_ne S t hS0)] at k
    exact addAdd_FF0_same f m a b _ _ _ _ _ _ _ _ 0 0 0 0 w hT cO cn1 cn2 ci1 ci2 cz1 cz2 g1 g2 g3 g4 hs _ _ _ _ _ _ _ _ _ cb1 cb2 cL1 cL2 cL3 cJ (beq_iff_eq.2 hne) _ _ _ _ _ k cA
   ·rw [if_neg hne]
    have hb : (belowN4 (clsN f a) == belowN4 (clsN f b)) = false := beq_eq_false_iff_ne.2 hne
    have tS6 := lt_113_6 _ _ (by decide) tS.out
    have tt6 := lt_113_6 _ _ (by decide) tt.out
    have cC' := fun w => wideCmp_any S t w tS6 tt6
    by_cases hst : S = t
    ·rw [if_pos hst]
     rw [show cmpN S t = 0 by unfold cmpN; rw [if_neg (by omega), if_neg (by omega)]] at cC'
     exact addAdd_FF0_zero f m a b _ _ _ _ _ _ _ _ 0 0 0 0 w hT cO cn1 cn2 ci1 ci2 cz1 cz2 g1 g2 g3 g4 hs _ _ _ _ _ _ _ _ _ cb1 cb2 cL1 cL2 cL3 cJ hb cC' _ cZ
    ·rw [if_neg hst]
     by_cases hlt : t < S
     ·rw [if_pos hlt]
      rw [show cmpN S t = 1 by unfold cmpN; rw [if_neg (by omega), if_pos hlt]] at cC'
      have cS := fun w => wideSub_any S t w tt6
      unfold W at cS
      rw [limbs_sub S t (Nat.le_of_lt hlt)] at cS
      have k := cK (belowN4 (clsN f a)) (S - t) (sub_lt_pow2 S t 315 316 rfl tS.out)
      rw [hP _ _ (sub_ne S t hlt)] at k
      exact addAdd_FF0_more f m a b _ _ _ _ _ _ _ _ 0 0 0 0 w hT cO cn1 cn2 ci1 ci2 cz1 cz2 g1 g2 g3 g4 hs _ _ _ _ _ _ _ _ _ cb1 cb2 cL1 cL2 cL3 cJ hb cC' _ _ _ _ _ k cS
     ·rw [if_neg hlt]
      rw [show cmpN S t = -1 by unfold cmpN; rw [if_pos (by omega)]] at cC'
      have cS := fun w => wideSub_any t S w tS6
      unfold W at cS
      rw [limbs_sub t S (by omega)] at cS
      have k := cK (belowN4 (clsN f b)) (t - S) (sub_lt_pow2 t S 315 316 rfl tt.out)
      rw [hP _ _ (sub_ne t S (by clear tS tt b2 b4; omega))] at k
      exact addAdd_FF0_less f m a b _ _ _ _ _ _ _ _ 0 0 0 0 w hT cO cn1 cn2 ci1 ci2 cz1 cz2 g1 g2 g3 g4 hs _ _ _ _ _ _ _ _ _ cb1 cb2 cL1 cL2 cL3 cJ hb cC' _ _ _ _ _ k cS))
 ·exact addAdd_FZ f m a b _ _ _ _ _ _ _ _ 0 0 0 0 w hT cO cn1 cn2 ci1 ci2 cz1 cz2 
 ·exact addAdd_FI f m a b _ _ _ _ _ _ _ _ 0 0 0 0 w hT cO cn1 cn2 ci1 ci2 cz1 cz2 
 ·exact absurd (inf_zer _ i2) (by rw [z2]; decide)
 ·exact addAdd_ZF f m a b _ _ _ _ _ _ _ _ 0 0 0 0 w hT cO cn1 cn2 ci1 ci2 cz1 cz2 
 ·(
  by_cases he : clsN f a = clsN f b
  ·rw [decide_eq_true he] at hc; rw [if_pos he]
   exact addAdd_ZZs f m a b _ _ _ _ _ _ _ _ 0 0 0 0 w hT cO cn1 cn2 ci1 ci2 cz1 cz2  hc
  ·rw [decide_eq_false he] at hc; rw [if_neg he]
   exact addAdd_ZZd f m a b _ _ _ _ _ _ _ _ 0 0 0 0 w hT cO cn1 cn2 ci1 ci2 cz1 cz2  hc _ cZ)
 ·exact addAdd_ZI f m a b _ _ _ _ _ _ _ _ 0 0 0 0 w hT cO cn1 cn2 ci1 ci2 cz1 cz2 
 ·exact absurd (inf_zer _ i2) (by rw [z2]; decide)
 ·exact addAdd_IF f m a b _ _ _ _ _ _ _ _ 0 0 0 0 w hT cO cn1 cn2 ci1 ci2 cz1 cz2 
 ·exact addAdd_IZ f m a b _ _ _ _ _ _ _ _ 0 0 0 0 w hT cO cn1 cn2 ci1 ci2 cz1 cz2 
 ·(
  by_cases he : clsN f a = clsN f b
  ·rw [decide_eq_true he] at hc ⊢
   exact addAdd_IIs f m a b _ _ _ _ _ _ _ _ 0 0 0 0 w hT cO cn1 cn2 ci1 ci2 cz1 cz2  hc
  ·rw [decide_eq_false he] at hc ⊢
   exact addAdd_IId f m a b _ _ _ _ _ _ _ _ 0 0 0 0 w hT cO cn1 cn2 ci1 ci2 cz1 cz2  hc _ cN)
 ·exact absurd (inf_zer _ i2) (by rw [z2]; decide)
 ·exact absurd (inf_zer _ i1) (by rw [z1]; decide)
 ·exact absurd (inf_zer _ i1) (by rw [z1]; decide)
 ·exact absurd (inf_zer _ i1) (by rw [z1]; decide)
 ·exact absurd (inf_zer _ i1) (by rw [z1]; decide)
end Go.Proofs.YtgmhmpflmgfcdaaGreatDoor
