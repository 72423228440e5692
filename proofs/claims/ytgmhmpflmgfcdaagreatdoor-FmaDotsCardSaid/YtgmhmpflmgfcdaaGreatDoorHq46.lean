/- Part 46 of the proof. -/
import Derived.Test.YtgmhmpflmgfcdaaGreatDoorHq5
import Derived.Test.YtgmhmpflmgfcdaaGreatDoorHq37
import Derived.Test.YtgmhmpflmgfcdaaGreatDoorHq38
import Derived.Test.YtgmhmpflmgfcdaaGreatDoorHq45
set_option linter.unusedSimpArgs false
set_option linter.unusedVariables false
set_option linter.unnecessarySimpa false
set_option maxRecDepth 100000
set_option maxHeartbeats 3200000
namespace Go.Proofs.YtgmhmpflmgfcdaaGreatDoor
open Go.RowKit
theorem cmpN_cases (a b : Nat) : cmpN a b = 0 ∨ cmpN a b = 1 ∨ cmpN a b = -1 := by
 unfold cmpN; split
 ·simp
 ·split <;> simp
theorem lenN_shift (a d : Nat) (h : a ≠ 0) : lenN (a * 2 ^ d) = lenN a + d := lenN_mul a d h
theorem fmaSum_any (f m : Nat) (n1 n2 : Bool) (s1 s2 : Nat) (x1 x2 : Int) (w : World) (hT : Tab w) (hf4 : f < 4) (hm5 : m < 5) (h1 : s1 ≠ 0) (h2 : s2 ≠ 0) (q1 : s1 < 2 ^ 226) (q2 : s2 < 2 ^ 226)
  (hx1 : -200000 ≤ x1) (hx1b : x1 ≤ 200000) (hx2 : -200000 ≤ x2) (hx2b : x2 ≤ 200000) :
  CR_ 117 #[.int .u8 f, .int .u8 m, RV n1 s1 x1 false, RV n2 s2 x2 false] w (.tuple #[BV (sumX f m n1 s1 x1 n2 s2 x2).1, .int .u8 ((sumX f m n1 s1 x1 n2 s2 x2).2 : Nat), .int .i64 0]) := by
 have hf : f < 256 := by omega
 have hm : m < 256 := by omega
 have t1 := lt_113_6 _ _ (by decide) q1
 have t2 := lt_113_6 _ _ (by decide) q2
 have l1 := (lenN_le _ 226).2 q1
 have l2 := (lenN_le _ 226).2 q2
 have p1 := lenN_pos _ h1
 have p2 := lenN_pos _ h2
 have cl1 := fun w => wideLen_any s1 w t1
 have cl2 := fun w => wideLen_any s2 w t2
 have cZ := fun w => shapeZero_any f (decide (m = 2)) w hf
 have em : ((m : Int) == 2) = decide (m = 2) := cast_beq m 2
 rw [← em] at cZ
 by_cases hs : (lenN s1 : Int) + x1 < (lenN s2 : Int) + x2
 ·rw [sumX_swap]
  obtain ⟨N, hN⟩ : ∃ N : Nat, 381 - lenN s2 = N := ⟨_, rfl⟩
  have hNi : (381 - (lenN s2 : Int)) = (N : Int) := by omega
  have cT := fun w => jamTop_any s2 w t2 h2 (by omega)
  obtain ⟨c1, c2⟩ := sum_core f m n2 s2 x2 n1 s1 x1 hf4 h2 h1 q2 q1
  rw [hN, hNi] at cT c1 c2
  have hul : lenN (s2 * 2 ^ N) = 381 := by rw [lenN_shift _ _ h2]; omega
  have hu0 : s2 * 2 ^ N ≠ 0 := by intro h; rw [h, lenN_zero] at hul; omega
  obtain ⟨u, hu⟩ : ∃ u, s2 * 2 ^ N = u := ⟨_, rfl⟩
  rw [hu] at cT c1 c2 hul hu0
  have hub := Lib.hid (lt_up u 381 381 (by rw [← hul]; exact lenN_lt u) (by decide))
  obtain ⟨t, ht, hJ, cL, cJ⟩ : ∃ t, lenN t ≤ 381 ∧ sumJ f m n2 u n1 t (x2 - N) = sumX f m n2 s2 x2 n1 s1 x1 ∧
    (0 ≤ x1 - (x2 - (N : Int)) → ∀ w, CR_ 101 #[W s1, .int .i64 (x1 - (x2 - (N : Int)))] w (.tuple #[W t, .bool (decide (top6 ≤ t))])) ∧
    (¬ 0 ≤ x1 - (x2 - (N : Int)) → ∀ w, Tab w → CR_ 102 #[W s1, .int .i64 (-(x1 - (x2 - (N : Int))))] w (W t)) := by
   by_cases hd : 0 ≤ x1 - (x2 - (N : Int))
   ·refine ⟨_, ?_, c2 (by omega), fun _ w => wideLeft_n s1 (x1 - (x2 - (N : Int))) w t1, fun h => absurd hd h⟩
    rw [lenN_shift _ _ h1]; omega
   ·refine ⟨_, ?_, c1 (by omega), fun h => absurd h hd, fun _ w hT => ?_⟩
    ·have := (lenN_le _ 226).2 (jamN_lt s1 (x2 - N - x1).toNat 226 (by decide) q1)
     omega
    ·have := jamRight_any s1 (-(x1 - (x2 - (N : Int)))) w t1 hT
     rw [show (-(x1 - (x2 - (N : Int)))).toNat = (x2 - N - x1).toNat by omega] at this
     exact this
  rw [← hJ]
  have htb := Lib.hid ((lenN_le t 381).1 ht)
  have tu6 := lt_113_6 u 381 (by decide) hub.out
  have tt6 := lt_113_6 t 381 (by decide) htb.out
  have cK := fun neg s (hs : s < 2 ^ 382) w hT => roundPack_any f m s (x2 - (N : Int)) neg false w hT hf hm (lt_113_6 _ _ (by decide) hs)
  have hP := fun neg s (hs : s ≠ 0) => pack_ok f m s neg (x2 - (N : Int)) hf4 hm5 (by omega) (by omega) hs
  unfold sumJ
  by_cases hne : n2 = n1
  ·rw [if_pos hne]
   have k := cK n2 (u + t) (add_lt_pow2 u t 381 382 rfl hub.out htb.out)
   rw [hP _ _ (add_ne u t hu0)] at k
   exact fmaSum_same1 f m n1 n2 s1 s2 x1 x2 _ _ _ _ _ _ w hT hx1 hx1b hx2 hx2b (by omega) (by omega) (by omega) (by omega) hs cl1 cl2 cT cL cJ (beq_iff_eq.2 hne) _ _ _ _ _ k (fun w => wideAdd_any u t w)
  ·rw [if_neg hne]
   have hb : (n2 == n1) = false := beq_eq_false_iff_ne.2 hne
   have base := fmaSum_diff1 f m n1 n2 s1 s2 x1 x2 _ _ _ _ _ _ w hT hx1 hx1b hx2 hx2b (by omega) (by omega) (by omega) (by omega) hs cl1 cl2 cT cL cJ hb (cmpN u t) (cmpN_cases u t) (fun w => wideCmp_any u t w tu6 tt6) _ cZ
   have cM : ∀ h : t ≤ u, ∀ w, CR_ 105 #[W u, W t] w (.tuple #[W (u - t), .bool (cbit (subN u t) t 6)]) := by
    intro h w
    have := wideSub_any u t w tt6
    unfold W at this ⊢
    rw [limbs_sub u t h] at this; exact this
   have cS : ∀ h : u ≤ t, ∀ w, CR_ 105 #[W t, W u] w (.tuple #[W (t - u), .bool (cbit (subN t u) u 6)]) := by
    intro h w
    have := wideSub_any t u w tu6
    unfold W at this ⊢
    rw [limbs_sub t u h] at this; exact this
   have k1 := cK n2 (u - t) (sub_lt_pow2 u t 381 382 rfl hub.out)
   have k2 := cK n1 (t - u) (sub_lt_pow2 t u 381 382 rfl htb.out)
   rcases Nat.lt_trichotomy u t with hlt | heq | hgt
   ·rw [if_neg (Nat.ne_of_lt hlt), if_neg (Nat.lt_asymm hlt)]
    have e : cmpN u t = -1 := by unfold cmpN; rw [if_pos hlt]
    rw [hP _ _ (sub_ne t u hlt)] at k2
    refine (base 0 0 false 0 0 (fun h => absurd h (by rw [e]; decide)) _ _ _ _ _ (fun _ => k2) (fun h => absurd h (by rw [e]; decide)) (fun _ => cS (Nat.le_of_lt hlt))).mono ?_
    rintro e' w' ⟨rfl, hb⟩
    refine ⟨?_, hb⟩
    rw [e]; rfl
   ·rw [if_pos heq]
    have e : cmpN u t = 0 := by unfold cmpN; rw [if_neg (by rw [heq]; exact Nat.lt_irrefl _), if_neg (by rw [heq]; exact Nat.lt_irrefl _)]
    refine (base 0 0 false 0 0 (fun h => absurd h (by rw [e]; decide)) 0 0 false 0 0 (fun h => absurd h (by rw [e]; decide)) (fun h => absurd h (by rw [e]; decide)) (fun h => absurd h (by rw [e]; decide))).mono ?_
    rintro e' w' ⟨rfl, hb⟩
    refine ⟨?_, hb⟩
    rw [e, em]; rfl
   ·rw [if_neg (Nat.ne_of_gt hgt), if_pos hgt]
    have e : cmpN u t = 1 := by unfold cmpN; rw [if_neg (Nat.lt_asymm hgt), if_pos hgt]
    rw [hP _ _ (sub_ne u t hgt)] at k1
    refine (base _ _ _ _ _ (fun _ => k1) 0 0 false 0 0 (fun h => absurd h (by rw [e]; decide)) (fun _ => cM (Nat.le_of_lt hgt)) (fun h => absurd h (by rw [e]; decide))).mono ?_
    rintro e' w' ⟨rfl, hb⟩
    refine ⟨?_, hb⟩
    rw [e]; rfl
 ·skip
  obtain ⟨N, hN⟩ : ∃ N : Nat, 381 - lenN s1 = N := ⟨_, rfl⟩
  have hNi : (381 - (lenN s1 : Int)) = (N : Int) := by omega
  have cT := fun w => jamTop_any s1 w t1 h1 (by omega)
  obtain ⟨c1, c2⟩ := sum_core f m n1 s1 x1 n2 s2 x2 hf4 h1 h2 q1 q2
  rw [hN, hNi] at cT c1 c2
  have hul : lenN (s1 * 2 ^ N) = 381 := by rw [lenN_shift _ _ h1]; omega
  have hu0 : s1 * 2 ^ N ≠ 0 := by intro h; rw [h, lenN_zero] at hul; omega
  obtain ⟨u, hu⟩ : ∃ u, s1 * 2 ^ N = u := ⟨_, rfl⟩
  rw [hu] at cT c1 c2 hul hu0
  have hub := Lib.hid (lt_up u 381 381 (by rw [← hul]; exact lenN_lt u) (by decide))
  obtain ⟨t, ht, hJ, cL, cJ⟩ : ∃ t, lenN t ≤ 381 ∧ sumJ f m n1 u n2 t (x1 - N) = sumX f m n1 s1 x1 n2 s2 x2 ∧
    (0 ≤ x2 - (x1 - (N : Int)) → ∀ w, CR_ 101 #[W s2, .int .i64 (x2 - (x1 - (N : Int)))] w (.tuple #[W t, .bool (decide (top6 ≤ t))])) ∧
    (¬ 0 ≤ x2 - (x1 - (N : Int)) → ∀ w, Tab w → CR_ 102 #[W s2, .int .i64 (-(x2 - (x1 - (N : Int))))] w (W t)) := by
   by_cases hd : 0 ≤ x2 - (x1 - (N : Int))
   ·refine ⟨_, ?_, c2 (by omega), fun _ w => wideLeft_n s2 (x2 - (x1 - (N : Int))) w t2, fun h => absurd hd h⟩
    rw [lenN_shift _ _ h2]; omega
   ·refine ⟨_, ?_, c1 (by omega), fun h => absurd h hd, fun _ w hT => ?_⟩
    ·have := (lenN_le _ 226).2 (jamN_lt s2 (x1 - N - x2).toNat 226 (by decide) q2)
     omega
    ·have := jamRight_any s2 (-(x2 - (x1 - (N : Int)))) w t2 hT
     rw [show (-(x2 - (x1 - (N : Int)))).toNat = (x1 - N - x2).toNat by omega] at this
     exact this
  rw [← hJ]
  have htb := Lib.hid ((lenN_le t 381).1 ht)
  have tu6 := lt_113_6 u 381 (by decide) hub.out
  have tt6 := lt_113_6 t 381 (by decide) htb.out
  have cK := fun neg s (hs : s < 2 ^ 382) w hT => roundPack_any f m s (x1 - (N : Int)) neg false w hT hf hm (lt_113_6 _ _ (by decide) hs)
  have hP := fun neg s (hs : s ≠ 0) => pack_ok f m s neg (x1 - (N : Int)) hf4 hm5 (by omega) (by omega) hs
  unfold sumJ
  by_cases hne : n1 = n2
  ·rw [if_pos hne]
   have k := cK n1 (u + t) (add_lt_pow2 u t 381 382 rfl hub.out htb.out)
   rw [hP _ _ (add_ne u t hu0)] at k
   exact fmaSum_same0 f m n1 n2 s1 s2 x1 x2 _ _ _ _ _ _ w hT hx1 hx1b hx2 hx2b (by omega) (by omega) (by omega) (by omega) hs cl1 cl2 cT cL cJ (beq_iff_eq.2 hne) _ _ _ _ _ k (fun w => wideAdd_any u t w)
  ·rw [if_neg hne]
   have hb : (n1 == n2) = false := beq_eq_false_iff_ne.2 hne
   have base := fmaSum_diff0 f m n1 n2 s1 s2 x1 x2 _ _ _ _ _ _ w hT hx1 hx1b hx2 hx2b (by omega) (by omega) (by omega) (by omega) hs cl1 cl2 cT cL cJ hb (cmpN u t) (cmpN_cases u t) (fun w => wideCmp_any u t w tu6 tt6) _ cZ
   have cM : ∀ h : t ≤ u, ∀ w, CR_ 105 #[W u, W t] w (.tuple #[W (u - t), .bool (cbit (subN u t) t 6)]) := by
    intro h w
    have := wideSub_any u t w tt6
    unfold W at this ⊢
    rw [limbs_sub u t h] at this; exact this
   have cS : ∀ h : u ≤ t, ∀ w, CR_ 105 #[W t, W u] w (.tuple #[W (t - u), .bool (cbit (subN t u) u 6)]) := by
    intro h w
    have := wideSub_any t u w tu6
    unfold W at this ⊢
    rw [limbs_sub t u h] at this; exact this
   have k1 := cK n1 (u - t) (sub_lt_pow2 u t 381 382 rfl hub.out)
   have k2 := cK n2 (t - u) (sub_lt_pow2 t u 381 382 rfl htb.out)
   rcases Nat.lt_trichotomy u t with hlt | heq | hgt
   ·rw [if_neg (Nat.ne_of_lt hlt), if_neg (Nat.lt_asymm hlt)]
    have e : cmpN u t = -1 := by unfold cmpN; rw [if_pos hlt]
    rw [hP _ _ (sub_ne t u hlt)] at k2
    refine (base 0 0 false 0 0 (fun h => absurd h (by rw [e]; decide)) _ _ _ _ _ (fun _ => k2) (fun h => absurd h (by rw [e]; decide)) (fun _ => cS (Nat.le_of_lt hlt))).mono ?_
    rintro e' w' ⟨rfl, hb⟩
    refine ⟨?_, hb⟩
    rw [e]; rfl
   ·rw [if_pos heq]
    have e : cmpN u t = 0 := by unfold cmpN; rw [if_neg (by rw [heq]; exact Nat.lt_irrefl _), if_neg (by rw [heq]; exact Nat.lt_irrefl _)]
    refine (base 0 0 false 0 0 (fun h => absurd h (by rw [e]; decide)) 0 0 false 0 0 (fun h => absurd h (by rw [e]; decide)) (fun h => absurd h (by rw [e]; decide)) (fun h => absurd h (by rw [e]; decide))).mono ?_
    rintro e' w' ⟨rfl, hb⟩
    refine ⟨?_, hb⟩
    rw [e, em]; rfl
   ·rw [if_neg (Nat.ne_of_gt hgt), if_pos hgt]
    have e : cmpN u t = 1 := by unfold cmpN; rw [if_neg (Nat.lt_asymm hgt), if_pos hgt]
    rw [hP _ _ (sub_ne u t hgt)] at k1
    refine (base _ _ _ _ _ (fun _ => k1) 0 0 false 0 0 (fun h => absurd h (by rw [e]; decide)) (fun _ => cM (Nat.le_of_lt hgt)) (fun h => absurd h (by rw [e]; decide))).mono ?_
    rintro e' w' ⟨rfl, hb⟩
    refine ⟨?_, hb⟩
    rw [e]; rfl
end Go.Proofs.YtgmhmpflmgfcdaaGreatDoor
