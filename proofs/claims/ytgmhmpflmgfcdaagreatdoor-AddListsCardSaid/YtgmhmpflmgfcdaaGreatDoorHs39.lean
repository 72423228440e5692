/- Part 39 of what is proved: R11aj, Opa, Grj. -/
import Derived.Test.YtgmhmpflmgfcdaaGreatDoorHs3
import Derived.Test.YtgmhmpflmgfcdaaGreatDoorHs4
import Derived.Test.YtgmhmpflmgfcdaaGreatDoorHs5
import Derived.Test.YtgmhmpflmgfcdaaGreatDoorHs6
import Derived.Test.YtgmhmpflmgfcdaaGreatDoorHs7
import Derived.Test.YtgmhmpflmgfcdaaGreatDoorHs8
import Derived.Test.YtgmhmpflmgfcdaaGreatDoorHs32
import Derived.Test.YtgmhmpflmgfcdaaGreatDoorHs36
import Derived.Test.YtgmhmpflmgfcdaaGreatDoorHs37
import Derived.Test.YtgmhmpflmgfcdaaGreatDoorHs38
set_option linter.unusedSimpArgs false
set_option linter.unusedVariables false
set_option linter.unnecessarySimpa false
set_option maxRecDepth 100000
set_option maxHeartbeats 3200000
namespace Go.Proofs.YtgmhmpflmgfcdaaGreatDoor
open Go.RowKit Go.Proofs.YtgmhmpflmgfcdaaGreatDoorW.PrintWords Go.Proofs.YtgmhmpflmgfcdaaGreatDoor.PDivQuotients
theorem limbs_two (a b : Nat) (ha : a < 2 ^ (64 * 2)) (hb : b < 2 ^ (64 * 2)) (h : limb a 1 = limb b 1 ∧ limb a 0 = limb b 0) : a = b := by
 have e : (2 : Nat) ^ (64 * 2) = 340282366920938463463374607431768211456 := by decide
 rw [e] at ha hb
 obtain ⟨h1, h0⟩ := h
 unfold limb limbN at h1 h0
 have p1 : (2 : Nat) ^ (64 * 1) = 18446744073709551616 := by decide
 have p0 : (2 : Nat) ^ (64 * 0) = 1 := by decide
 rw [p1] at h1
 rw [p0] at h0
 omega
theorem xp_tight (f a : Nat) (hf : fitsB f a = true) (hc : Fin0 f a) : -16494 ≤ xpN f a ∧ xpN f a ≤ 16384 := by
 obtain ⟨h1, h2, h3, h5, h6, h7, h8, h9⟩ := formK f ((fits_iff f a).1 hf).1
 have k := (can_of f a hf hc).1
 have := k.ge; have := k.le; omega
theorem oneS (n : Nat) (e : Int) (hn : n ≠ 0) (h1 : lenN n ≤ 60000) (h3 : -130000 ≤ e) (h4 : e ≤ 130000) : OneF (numX n 1) (denX n 1) (expX n 1 e) := by
 obtain ⟨o1, o2, o3⟩ := mkx_odd n 1 hn (by decide)
 obtain ⟨-, -, x3, -⟩ := mkx_parts n 1 hn (by decide)
 obtain ⟨a1, a2, a3⟩ := numX_one n hn e
 have z1 := lowZ_lt n hn
 have l1 : lenN (numX n 1) ≤ lenN n := by rw [a1]; exact lenN_div_le _ _
 have l2 : lenN 1 ≤ 1 := (lenN_le 1 1).2 (by decide)
 exact ⟨x3, o1, o2, o3, by omega, by rw [a2]; omega, by rw [a3]; omega, by rw [a3]; omega⟩
theorem rndS (f m : Nat) (g : Bool) (n : Nat) (e : Int) (hf : f < 4) (hn : n ≠ 0) : rndX f m g (numX n 1) (denX n 1) (expX n 1 e) = packB f m g n e false := by
 obtain ⟨a1, a2, a3⟩ := numX_one n hn e
 rw [a1, a2, a3, rnd_odd f m g n e hn, rnd_whole f m g n e hf hn]
theorem sumX_SM (f m : Nat) (x y : Bool) (s t : Nat) (e d : Int) (hs : s ≠ 0) (A B : Nat) (hA : A = s * 2 ^ (e - min e d).toNat) (hB : B = t * 2 ^ (d - min e d).toNat) :
  sumX f m x s e y t d = if sumM x y A B = 0 then (zeroN f (decide (m = 2)), 0) else packB f m (sumS x y A B) (sumM x y A B) (min e d) false := by
 have hA0 : A ≠ 0 := by rw [hA]; exact Nat.mul_ne_zero hs (Nat.ne_of_gt (Nat.two_pow_pos _))
 unfold sumX sumM sumS
 rw [← hA, ← hB]
 by_cases h : x = y
 ·rw [if_pos h, if_pos h, if_pos h, if_neg (by omega)]
 ·rw [if_neg h, if_neg h, if_neg h]
  rcases Nat.lt_trichotomy A B with h1 | h1 | h1
  ·rw [if_neg (show ¬ A = B by omega), if_neg (show ¬ B < A by omega), if_neg (show ¬ B ≤ A by omega), if_neg (show ¬ B ≤ A by omega), if_neg (show ¬ B - A = 0 by omega)]
  ·rw [if_pos h1, if_pos (show B ≤ A by omega), if_pos (show A - B = 0 by omega)]
  ·rw [if_neg (show ¬ A = B by omega), if_pos h1, if_pos (show B ≤ A by omega), if_pos (show B ≤ A by omega), if_neg (show ¬ A - B = 0 by omega)]
theorem sumX_odd (f m : Nat) (x y : Bool) (a b : Nat) (na : sigN f a ≠ 0) (nb : sigN f b ≠ 0) : sumX f m x (sO f a) (xO f a) y (sO f b) (xO f b) = sumX f m x (sigN f a) (xpN f a) y (sigN f b) (xpN f b) := by
 obtain ⟨a1, a2, a3⟩ := sO_split f a na
 obtain ⟨b1, b2, b3⟩ := sO_split f b nb
 have key : ∀ (c : Nat) (e0 : Int), e0 ≤ xpN f c → sigN f c = sO f c * 2 ^ lowZ (sigN f c) → sO f c * 2 ^ (xO f c - e0).toNat = sigN f c * 2 ^ (xpN f c - e0).toNat := by
  intro c e0 h hc
  have e1 : (xO f c - e0).toNat = lowZ (sigN f c) + (xpN f c - e0).toNat := by unfold xO; omega
  rw [e1, Nat.pow_add, ← Nat.mul_assoc, ← hc]
 have e1 := sumX_scale f m x (sO f a) (xO f a) y (sO f b) (xO f b) (min (xpN f a) (xpN f b)) (by unfold xO; omega) a3 b3
 have e2 := sumX_scale f m x (sigN f a) (xpN f a) y (sigN f b) (xpN f b) (min (xpN f a) (xpN f b)) (by omega) na nb
 rw [key a _ (by omega) a1, key b _ (by omega) b1] at e1
 rw [← e1, e2]
theorem r8ValueZ_any (f a : Nat) (w : World) (fa : fitsB f a = true) (h1 : nanB (clsN f a) = false) (i1 : infB (clsN f a) = false) (na : sigN f a = 0) :
  CR_ 88 #[.int .u8 f, BV a] w (.tuple #[.agg (exC false ⟨#[]⟩ ⟨#[1]⟩ 0), .int .i64 0]) := by
 have h := r8Value_any f a w fa h1 i1
 have e1 : exV (negX' (negN f a) (sigN f a)) (numX (sigN f a) 1) (denX (sigN f a) 1) (expX (sigN f a) 1 (xpN f a)) = .agg (exC false ⟨#[]⟩ ⟨#[1]⟩ 0) := by
  show Value.agg (exC _ (strB _) (strB _) _) = _
  unfold negX' numX denX expX
  rw [if_pos na, if_pos na, if_pos na, if_pos na, strB_one, strB_zero]
 rw [e1] at h
 exact h
theorem sig_zer (f a : Nat) (h : zerB (clsN f a) = true) : sigN f a = 0 := by
 unfold zerB at h
 simp only [Bool.or_eq_true, decide_eq_true_iff] at h
 unfold sigN; rw [if_neg (by omega), if_neg (by omega)]
theorem fin0_of (f a : Nat) (h1 : nanB (clsN f a) = false) (i1 : infB (clsN f a) = false) (z1 : zerB (clsN f a) = false) : Fin0 f a := by
 unfold nanB at h1
 unfold infB at i1
 unfold zerB at z1
 simp only [Bool.or_eq_false_iff, decide_eq_false_iff_not] at h1 i1 z1
 rcases cls_sort f a with c | c | c | c
 ·omega
 ·omega
 ·omega
 ·exact c
theorem len_sum (S A B p : Nat) (h : S ≤ A + B) (hA : lenN A ≤ p) (hB : lenN B ≤ p) : lenN S ≤ p + 1 := by
 have h1 := (lenN_le A p).1 hA
 have h2 := (lenN_le B p).1 hB
 refine (lenN_le _ _).2 ?_
 rw [Nat.pow_succ]; omega
theorem rnd_self (f m a : Nat) (fa : fitsB f a = true) (hc : Fin0 f a) (na : sigN f a ≠ 0) : rndX f m (negN f a) (sO f a) 1 (xO f a) = (a, 0) := by
 have hf := ((fits_iff f a).1 fa).1
 obtain ⟨c1, c2⟩ := can_of f a fa hc
 rw [show rndX f m (negN f a) (sO f a) 1 (xO f a) = rndX f m (negN f a) (sigN f a) 1 (xpN f a) from rnd_odd f m (negN f a) (sigN f a) (xpN f a) na, ← rnd_whole f m _ _ _ hf na, pack_can f m _ _ _ hf c1, c2]
theorem flip_fits (f b : Nat) (h : fitsB f b = true) : fitsB f (flipN f b) = true := by
 unfold flipN; rw [h]
 exact (mkN_fields f ((fits_iff f b).1 h).1 (!negN f b) (expN f b) (b % 2 ^ (pF f - 1)) (Nat.mod_lt _ (two_pos _)) (expN_lt f b ((fits_iff f b).1 h).1)).2.2.2
theorem r11Nought_any (f m : Nat) (w : World) (hf : f < 4) : CR_ 106 #[.int .u8 f, .int .u8 m] w (BV (zeroN f (decide (m = 2)))) := by
 by_cases h : m = 2
 ·subst h
  rw [decide_eq_true rfl]
  exact r11Nought_t f _ w (fun w => r7Zero_any f true w hf)
 ·rw [decide_eq_false h]
  exact r11Nought_f f m _ w (by rw [beq_eq_false_iff_ne]; omega) (fun w => r7Zero_any f false w hf)
theorem r11Add_any (f m a b : Nat) (w : World) (ha : a < 2 ^ (64 * 2)) (hb : b < 2 ^ (64 * 2)) :
  CR_ 27 #[.int .u8 f, .int .u8 m, BV a, BV b] w (.tuple #[BV (addN f m a b).1, .int .u8 ((addN f m a b).2.1 : Nat), .int .i64 (addN f m a b).2.2]) := by
 have cT := fun w g hB => r11Fits2_any f m a b w ha hb g hB
 cases ok : binOk f m a b
 case false =>
  rw [ok] at cT
  have e1 : addN f m a b = (0, 0, 2) := by unfold addN; rw [ok]; rfl
  rw [e1]
  exact r11Add_no f m a b 0 0 false false false ⟨#[]⟩ ⟨#[]⟩ ⟨#[]⟩ ⟨#[]⟩ ⟨#[]⟩ ⟨#[]⟩ 0 0 0 0 w cT
 rw [ok] at cT
 have e1 : addN f m a b = ((addR f m a b).1, (addR f m a b).2, 0) := by unfold addN; rw [ok]; rfl
 rw [e1]
 have ok' := ok
 unfold binOk at ok'
 simp only [Bool.and_eq_true, decide_eq_true_iff] at ok'
 obtain ⟨⟨hf, hm⟩, fa, fb⟩ := ok'
 have cNa := fun w => r8IsNaN_any f a w hf ha
 have cNb := fun w => r8IsNaN_any f b w hf hb
 have cC := fun w g hB => r11Canon2 f (nanN f) a b (decide (clsN f a = 8)) (decide (clsN f b = 8)) w g hB (fun w => r7NaN_any f w hf) (fun w => r8IsSig_any f a w hf ha) (fun w => r8IsSig_any f b w hf hb)
 unfold addR
 cases h1 : nanB (clsN f a)
 case true =>
  rw [h1] at cNa
  rw [Bool.true_or, if_pos rfl]
  unfold canonR
  refine (r11Add_na f m a b _ _ false false false ⟨#[]⟩ ⟨#[]⟩ ⟨#[]⟩ ⟨#[]⟩ ⟨#[]⟩ ⟨#[]⟩ 0 0 0 0 w cT cNa cC).mono fun e w' h => ⟨h.1.trans ?_, h.2⟩
  cases decide (clsN f a = 8) <;> cases decide (clsN f b = 8) <;> rfl
 rw [h1] at cNa
 cases h2 : nanB (clsN f b)
 case true =>
  rw [h2] at cNb
  rw [Bool.or_true, if_pos rfl]
  unfold canonR
  refine (r11Add_nb f m a b _ _ false false false ⟨#[]⟩ ⟨#[]⟩ ⟨#[]⟩ ⟨#[]⟩ ⟨#[]⟩ ⟨#[]⟩ 0 0 0 0 w cT cNa cNb cC).mono fun e w' h => ⟨h.1.trans ?_, h.2⟩
  cases decide (clsN f a = 8) <;> cases decide (clsN f b = 8) <;> rfl
 rw [h2] at cNb
 rw [Bool.or_self, if_neg (by decide)]
 have n8a : ¬ 8 ≤ clsN f a := by unfold nanB at h1; simpa using h1
 have n8b : ¬ 8 ≤ clsN f b := by unfold nanB at h2; simpa using h2
 rw [below_neg f a n8a, below_neg f b n8b]
 have cIa := fun w => r8IsInf_nt f a w hf ha
 have cIb := fun w => r8IsInf_nt f b w hf hb
 have cZa := fun w => r8IsZero_nt f a w hf ha
 have cZb := fun w => r8IsZero_nt f b w hf hb
 have cN := fun w => r7NaN_any f w hf
 have cO := fun w => r11Nought_any f m w hf
 cases i1 : infB (clsN f a)
 case true =>
  rw [i1] at cIa
  have k1 := infB_cases _ i1
  cases i2 : infB (clsN f b)
  case false =>
   rw [i2] at cIb
   rw [Bool.and_false, Bool.false_and, if_neg (by decide), if_pos rfl]
   exact r11Add_If f m a b 0 0 false false false ⟨#[]⟩ ⟨#[]⟩ ⟨#[]⟩ ⟨#[]⟩ ⟨#[]⟩ ⟨#[]⟩ 0 0 0 0 w cT cNa cNb cIa cIb
  rw [i2] at cIb
  by_cases hc : clsN f a = clsN f b
  ·obtain rfl := inf_same f a b fa fb k1 hc
   rw [if_neg (by simp), if_pos rfl]
   exact r11Add_IIs f m a 0 0 false false false ⟨#[]⟩ ⟨#[]⟩ ⟨#[]⟩ ⟨#[]⟩ ⟨#[]⟩ ⟨#[]⟩ 0 0 0 0 w cT cNa cNb cIa cIb
  ·rw [if_pos (by simp [hc])]
   exact r11Add_IId f m a b _ 0 false false false ⟨#[]⟩ ⟨#[]⟩ ⟨#[]⟩ ⟨#[]⟩ ⟨#[]⟩ ⟨#[]⟩ 0 0 0 0 w cT cNa cNb cIa cIb (fun h => hc (by rw [limbs_two a b ha hb h])) cN
 rw [i1] at cIa
 rw [Bool.false_and, Bool.false_and, if_neg (by decide), if_neg (by decide)]
 cases i2 : infB (clsN f b)
 case true =>
  rw [i2] at cIb
  rw [if_pos rfl]
  exact r11Add_fI f m a b 0 0 false false false ⟨#[]⟩ ⟨#[]⟩ ⟨#[]⟩ ⟨#[]⟩ ⟨#[]⟩ ⟨#[]⟩ 0 0 0 0 w cT cNa cNb cIa cIb
 rw [i2] at cIb
 rw [if_neg (by decide)]
 cases z1 : zerB (clsN f a)
 case true =>
  rw [z1] at cZa
  have k1 := zerB_cases _ z1
  have s1 := sig_zer f a z1
  cases z2 : zerB (clsN f b)
  case true =>
   rw [z2] at cZb
   rw [if_pos rfl]
   by_cases hc : clsN f a = clsN f b
   ·obtain rfl := zero_same f a b fa fb k1 hc
    rw [if_pos rfl]
    exact r11Add_ZZs f m a 0 0 false false false ⟨#[]⟩ ⟨#[]⟩ ⟨#[]⟩ ⟨#[]⟩ ⟨#[]⟩ ⟨#[]⟩ 0 0 0 0 w cT cNa cNb cIa cIb cZa cZb
   ·rw [if_neg hc]
    exact r11Add_ZZd f m a b _ 0 false false false ⟨#[]⟩ ⟨#[]⟩ ⟨#[]⟩ ⟨#[]⟩ ⟨#[]⟩ ⟨#[]⟩ 0 0 0 0 w cT cNa cNb cIa cIb cZa cZb (fun h => hc (by rw [limbs_two a b ha hb h])) cO
  rw [z2] at cZb
  rw [Bool.and_false, if_neg (by decide), if_pos rfl]
  have nz := sig_ne f b fb h2 i2 z2
  have fin := fin0_of f b h2 i2 z2
  obtain ⟨u1, u2, u3, u4⟩ := oneB f b fb nz
  obtain ⟨-, u5, -⟩ := sO_split f b nz
  have cVa := fun w => r8ValueZ_any f a w fa h1 i1 s1
  have cVb := fun w => r8ValueF_any f b w fb h2 i2 nz
  obtain ⟨q1, q2⟩ := strE_none 0 rfl
  rw [strB_zero] at q1 q2
  obtain ⟨p1, p2⟩ := strE_full (sO f b) u1
  have cQ := fun w => r6Add_z1 false (negN f b) false ⟨#[]⟩ ⟨#[1]⟩ (strB (sO f b)) (strB 1) ⟨#[]⟩ ⟨#[]⟩ ⟨#[]⟩ ⟨#[]⟩ ⟨#[]⟩ ⟨#[]⟩ ⟨#[]⟩ ⟨#[]⟩ 0 (xO f b) 0 0 w (by omega) (by omega) (by omega) (by omega) q1 q2
  have hO : OneF (sO f b) 1 (xO f b) := ⟨u1, u5, by decide, Nat.gcd_one_right _, by omega, by decide, by omega, by omega⟩
  have cR := fun w => r9Round_any f m (negN f b) _ _ _ w hf hm hO
  rw [rnd_self f m b fb fin nz] at cR
  exact r11Add_Ft f m a b _ _ _ _ _ _ _ _ _ _ _ _ _ _ _ w cT cNa cNb cIa cIb cZa cZb cVa cVb cQ p1 p2 cR
 rw [z1] at cZa
 rw [Bool.false_and, if_neg (by decide), if_neg (by decide)]
 have na := sig_ne f a fa h1 i1 z1
 have fina := fin0_of f a h1 i1 z1
 obtain ⟨v1, v2, v3, v4⟩ := oneB f a fa na
 obtain ⟨-, v5, -⟩ := sO_split f a na
 have cVa := fun w => r8ValueF_any f a w fa h1 i1 na
 cases z2 : zerB (clsN f b)
 case true =>
  rw [if_pos rfl]
  have s2 := sig_zer f b z2
  have cVb := fun w => r8ValueZ_any f b w fb h2 i2 s2
  obtain ⟨q1, q2⟩ := strE_none 0 rfl
  rw [strB_zero] at q1 q2
  obtain ⟨p1, p2⟩ := strE_full (sO f a) v1
  have cQ := fun w => r6Add_z2 (negN f a) false false (strB (sO f a)) (strB 1) ⟨#[]⟩ ⟨#[1]⟩ ⟨#[]⟩ ⟨#[]⟩ ⟨#[]⟩ ⟨#[]⟩ ⟨#[]⟩ ⟨#[]⟩ ⟨#[]⟩ ⟨#[]⟩ (xO f a) 0 0 0 w (by omega) (by omega) (by omega) (by omega) p1 p2 q1 q2
  have hO : OneF (sO f a) 1 (xO f a) := ⟨v1, v5, by decide, Nat.gcd_one_right _, by omega, by decide, by omega, by omega⟩
  have cR := fun w => r9Round_any f m (negN f a) _ _ _ w hf hm hO
  rw [rnd_self f m a fa fina na] at cR
  exact r11Add_Ff f m a b _ _ _ _ _ _ _ _ _ _ _ _ _ _ _ w cT cNa cNb cIa cIb cZa cVa cVb cQ p1 p2 cR
 rw [if_neg (by decide)]
 have nz := sig_ne f b fb h2 i2 z2
 have finb := fin0_of f b h2 i2 z2
 obtain ⟨u1, u2, u3, u4⟩ := oneB f b fb nz
 have cVb := fun w => r8ValueF_any f b w fb h2 i2 nz
 have ta := xp_tight f a fa fina
 have tb := xp_tight f b fb finb
 have la := lowZ_lt (sigN f a) na
 have lb := lowZ_lt (sigN f b) nz
 have sa : lenN (sigN f a) ≤ 113 := (lenN_le _ 113).2 (sigN_113 f a fa)
 have sb : lenN (sigN f b) ≤ 113 := (lenN_le _ 113).2 (sigN_113 f b fb)
 have xa : -16494 ≤ xO f a ∧ xO f a ≤ 16500 := by unfold xO; omega
 have xb : -16494 ≤ xO f b ∧ xO f b ≤ 16500 := by unfold xO; omega
 obtain ⟨A, hA⟩ : ∃ A, A = sO f a * 2 ^ (xO f a - min (xO f a) (xO f b)).toNat := ⟨_, rfl⟩
 obtain ⟨B, hB⟩ : ∃ B, B = sO f b * 2 ^ (xO f b - min (xO f a) (xO f b)).toNat := ⟨_, rfl⟩
 have cQ := fun w => r6Add_any (negN f a) (negN f b) (sO f a) (sO f b) (xO f a) (xO f b) w v1 u1 (by omega) (by omega) (by omega) (by omega) (by omega) (by omega) A B hA hB
 have hS := sumX_SM f m (negN f a) (negN f b) (sO f a) (sO f b) (xO f a) (xO f b) v1 A B hA hB
 rw [sumX_odd f m _ _ a b na nz] at hS
 rw [hS]
 have lA : lenN A ≤ 113 + (xO f a - min (xO f a) (xO f b)).toNat := by rw [hA]; exact len_shl _ _ _ v3
 have lB : lenN B ≤ 113 + (xO f b - min (xO f a) (xO f b)).toNat := by rw [hB]; exact len_shl _ _ _ u3
 by_cases h0 : sumM (negN f a) (negN f b) A B = 0
 ·rw [if_pos h0]
  rw [h0] at cQ
  obtain ⟨q1, q2⟩ := strE_none (numX 0 1) (by unfold numX; rw [if_pos rfl])
  exact r11Add_Nf f m a b _ 0 _ _ _ _ _ _ _ _ _ _ _ _ 0 w cT cNa cNb cIa cIb cZa cVa cVb cQ q1 q2 cO
 ·rw [if_neg h0]
  have lS : lenN (sumM (negN f a) (negN f b) A B) ≤ 60000 := by
   have hl : sumM (negN f a) (negN f b) A B ≤ A + B := by unfold sumM; split; omega; split <;> omega
   exact Nat.le_trans (len_sum _ A B 50000 hl (by omega) (by omega)) (by decide)
  have hO := oneS _ (min (xO f a) (xO f b)) h0 lS (by omega) (by omega)
  have hg : negX' (sumS (negN f a) (negN f b) A B) (sumM (negN f a) (negN f b) A B) = sumS (negN f a) (negN f b) A B := by unfold negX'; rw [if_neg h0]
  rw [hg] at cQ
  have cR := fun w => r9Round_any f m (sumS (negN f a) (negN f b) A B) _ _ _ w hf hm hO
  rw [rndS f m _ _ _ hf h0] at cR
  obtain ⟨p1, p2⟩ := strE_full _ hO.num
  exact r11Add_Ff f m a b _ _ _ _ _ _ _ _ _ _ _ _ _ _ _ w cT cNa cNb cIa cIb cZa cVa cVb cQ p1 p2 cR
theorem r11Sub_any (f m a b : Nat) (w : World) (ha : a < 2 ^ (64 * 2)) (hb : b < 2 ^ (64 * 2)) :
  CR_ 29 #[.int .u8 f, .int .u8 m, BV a, BV b] w (.tuple #[BV (subA f m a b).1, .int .u8 ((subA f m a b).2.1 : Nat), .int .i64 (subA f m a b).2.2]) := by
 have cT := fun w g hB => r11Fits2_any f m a b w ha hb g hB
 cases ok : binOk f m a b
 case false =>
  rw [ok] at cT
  have e1 : subA f m a b = (0, 0, 2) := by
   unfold subA
   cases fb : fitsB f b
   ·rfl
   ·have : binOk f m a (flipN f b) = false := by
     unfold binOk at ok ⊢
     rw [fb] at ok
     cases h : fitsB f (flipN f b)
     ·simp
     ·rw [ok]
    show addN f m a (flipN f b) = _
    unfold addN; rw [this]; rfl
  rw [e1]
  exact r11Sub_no f m a b w cT
 rw [ok] at cT
 have fb : fitsB f b = true := by unfold binOk at ok; simp only [Bool.and_eq_true] at ok; exact ok.2.2
 have hF := flip_fits f b fb
 have e1 : subA f m a b = addN f m a (flipN f b) := by unfold subA; rw [fb]; rfl
 rw [e1]
 exact r11Sub_ok f m a b _ _ _ _ w cT (fun w => r8Flip_any f b w hb) (fun w => r11Add_any f m a (flipN f b) w ha (below_fits f _ hF))
open Go.RowKit
theorem add_open2_mode (f m a b : Nat) (w0 : World) (g0 : Nat) (hB : Blk 27 w0 g0 (cat2 (bc a) (bc b))) (cM : ∀ w, Calls Tryz.prog 121 #[.int .u8 m] w fun e w' => e = .returned (.int .i64 2) ∧ w = w') :
  CR_ 96 #[.int .u8 f, .int .u8 m, .slice (some ⟨g0, 0, none⟩) 2 2] w0 (.tuple #[.agg (tri 0 0 0 0 0 0 0 0 0 0 0 0), .bool false]) := by
 have H := Own.start w0
 go_enter Tryz.func96, Tryz.ntmps96
 exact walk4
theorem add_open2_form (f m a b : Nat) (w0 : World) (g0 : Nat) (hB : Blk 27 w0 g0 (cat2 (bc a) (bc b))) (cM : ∀ w, Calls Tryz.prog 121 #[.int .u8 m] w fun e w' => e = .returned (.int .i64 0) ∧ w = w') (cF : ∀ w, Calls Tryz.prog 154 #[.int .u8 f] w fun e w' => e = .returned (.int .i64 2) ∧ w = w') :
  CR_ 96 #[.int .u8 f, .int .u8 m, .slice (some ⟨g0, 0, none⟩) 2 2] w0 (.tuple #[.agg (tri 0 0 0 0 0 0 0 0 0 0 0 0), .bool false]) := by
 have H := Own.start w0
 go_enter Tryz.func96, Tryz.ntmps96
 exact walk4
theorem add_open2_no0 (f m a b : Nat) (w0 : World) (hT : Tab w0) (g0 : Nat) (hB : Blk 27 w0 g0 (cat2 (bc a) (bc b))) (cM : ∀ w, Calls Tryz.prog 121 #[.int .u8 m] w fun e w' => e = .returned (.int .i64 0) ∧ w = w') (cF : ∀ w, Calls Tryz.prog 154 #[.int .u8 f] w fun e w' => e = .returned (.int .i64 0) ∧ w = w') (cUa : CT_ 120 #[.int .u8 f, BV a] (.tuple #[.agg PZ, .int .i64 2])) :
  CR_ 96 #[.int .u8 f, .int .u8 m, .slice (some ⟨g0, 0, none⟩) 2 2] w0 (.tuple #[.agg (tri 0 0 0 0 0 0 0 0 0 0 0 0), .bool false]) := by
 have H := Own.start w0
 have HT := Lib.hid hT
 clear hT
 go_enter Tryz.func96, Tryz.ntmps96
 go_wp2_with (first
  | ((with_reducible refine g0_ rfl ?_); refine H.xb ?_; (intro g w H; simp only [Act.put, q1_, q2_, q3_]))
  | ((with_reducible refine g1_ rfl ?_); refine H.xa ?_; (intro g w H; simp only [Act.put, q1_, q2_, q3_]))
  | ((with_reducible refine g2_ rfl ?_); (first | refine H.xl ?_ | refine H.xm ?_); simp only [Act.put, q1_, q2_, q3_])
  | ((with_reducible refine g3_ rfl ?_); (first | refine H.xs ?_ | refine H.xt ?_); (intro w H; simp only [Act.put]))
  | (go_at_call 121; ((with_reducible refine (cM _).mono ?_); rintro e w' ⟨rfl, rfl⟩))
  | (go_at_call 154; ((with_reducible refine (cF _).mono ?_); rintro e w' ⟨rfl, rfl⟩))
  )
 go_loopw [23] (fun i wr => (i = .int .i64 0 ∧ Own w0 wr [(g, 101, (tri 0 0 0 0 0 0 0 0 0 0 0 0))])) (fun i _ => 3 - (intOf i).toNat)
 case atStart => exact ⟨rfl, H⟩
 case round =>
  clear H
  obtain ⟨rfl, H⟩ := hrel
  ·go_wp2_with (first
  | ((with_reducible refine g0_ rfl ?_); refine H.xb ?_; (intro g w H; simp only [Act.put, q1_, q2_, q3_]))
  | ((with_reducible refine g1_ rfl ?_); refine H.xa ?_; (intro g w H; simp only [Act.put, q1_, q2_, q3_]))
  | ((with_reducible refine g2_ rfl ?_); (first | refine H.xl ?_ | refine H.xm ?_); simp only [Act.put, q1_, q2_, q3_])
  | ((with_reducible refine g3_ rfl ?_); (first | refine H.xs ?_ | refine H.xt ?_); (intro w H; simp only [Act.put]))
  | ((with_reducible refine g4_ rfl ?_); refine H.ldo rfl rB rfl rfl hB (by first | with_reducible exact cat2_0 (bc _) (bc _)) (by rfl) ?_; simp only [Act.put, q1_, q2_, q3_])
  | (go_at_call 120; (with_reducible refine H.kc (cUa _ (HT.out.below H.below)) ?_; clear H; intro w H))
  )
   all_goals
    refine bodyPost_ret (results_ct rfl rfl (H.res rQ v2_ (ext_tri _ _ _ _ _ _ _ _ _ _ _ _) (by rfl))) rfl ⟨?_, H.below⟩
    rfl
theorem add_open2_no1 (f m a b : Nat) (w0 : World) (hT : Tab w0) (g0 : Nat) (hB : Blk 27 w0 g0 (cat2 (bc a) (bc b))) (cM : ∀ w, Calls Tryz.prog 121 #[.int .u8 m] w fun e w' => e = .returned (.int .i64 0) ∧ w = w') (cF : ∀ w, Calls Tryz.prog 154 #[.int .u8 f] w fun e w' => e = .returned (.int .i64 0) ∧ w = w') (cUa : CT_ 120 #[.int .u8 f, BV a] (.tuple #[.agg (PT f a), .int .i64 0])) (cUb : CT_ 120 #[.int .u8 f, BV b] (.tuple #[.agg PZ, .int .i64 2])) :
  CR_ 96 #[.int .u8 f, .int .u8 m, .slice (some ⟨g0, 0, none⟩) 2 2] w0 (.tuple #[.agg (tri (clsN f a) (sigN f a) (xpN f a) (frN f a) 0 0 0 0 0 0 0 0), .bool false]) := by
 have H := Own.start w0
 have HT := Lib.hid hT
 clear hT
 go_enter Tryz.func96, Tryz.ntmps96
 go_wp2_with (first
  | ((with_reducible refine g0_ rfl ?_); refine H.xb ?_; (intro g w H; simp only [Act.put, q1_, q2_, q3_]))
  | ((with_reducible refine g1_ rfl ?_); refine H.xa ?_; (intro g w H; simp only [Act.put, q1_, q2_, q3_]))
  | ((with_reducible refine g2_ rfl ?_); (first | refine H.xl ?_ | refine H.xm ?_); simp only [Act.put, q1_, q2_, q3_])
  | ((with_reducible refine g3_ rfl ?_); (first | refine H.xs ?_ | refine H.xt ?_); (intro w H; simp only [Act.put]))
  | (go_at_call 121; ((with_reducible refine (cM _).mono ?_); rintro e w' ⟨rfl, rfl⟩))
  | (go_at_call 154; ((with_reducible refine (cF _).mono ?_); rintro e w' ⟨rfl, rfl⟩))
  )
 go_loopw [23] (fun i wr => (i = .int .i64 0 ∧ Own w0 wr [(g, 101, (tri 0 0 0 0 0 0 0 0 0 0 0 0))]) ∨ (i = .int .i64 1 ∧ Own w0 wr [(g, 101, (tri (clsN f a) (sigN f a) (xpN f a) (frN f a) 0 0 0 0 0 0 0 0))])) (fun i _ => 3 - (intOf i).toNat)
 case atStart => exact Or.inl ⟨rfl, H⟩
 case round =>
  clear H
  rcases hrel with ⟨rfl, H⟩ | ⟨rfl, H⟩
  ·go_wp2_with (first
  | ((with_reducible refine g0_ rfl ?_); refine H.xb ?_; (intro g w H; simp only [Act.put, q1_, q2_, q3_]))
  | ((with_reducible refine g1_ rfl ?_); refine H.xa ?_; (intro g w H; simp only [Act.put, q1_, q2_, q3_]))
  | ((with_reducible refine g2_ rfl ?_); (first | refine H.xl ?_ | refine H.xm ?_); simp only [Act.put, q1_, q2_, q3_])
  | ((with_reducible refine g3_ rfl ?_); (first | refine H.xs ?_ | refine H.xt ?_); (intro w H; simp only [Act.put]))
  | ((with_reducible refine g4_ rfl ?_); refine H.ldo rfl rB rfl rfl hB (by first | with_reducible exact cat2_0 (bc _) (bc _)) (by rfl) ?_; simp only [Act.put, q1_, q2_, q3_])
  | (go_at_call 120; (with_reducible refine H.kc (cUa _ (HT.out.below H.below)) ?_; clear H; intro w H))
  )
   all_goals
    go_roundw
    case rel => exact Or.inr (⟨by go_num, H.sub v5_⟩)
    case measure => simp [intOf]
  ·go_wp2_with (first
  | ((with_reducible refine g0_ rfl ?_); refine H.xb ?_; (intro g w H; simp only [Act.put, q1_, q2_, q3_]))
  | ((with_reducible refine g1_ rfl ?_); refine H.xa ?_; (intro g w H; simp only [Act.put, q1_, q2_, q3_]))
  | ((with_reducible refine g2_ rfl ?_); (first | refine H.xl ?_ | refine H.xm ?_); simp only [Act.put, q1_, q2_, q3_])
  | ((with_reducible refine g3_ rfl ?_); (first | refine H.xs ?_ | refine H.xt ?_); (intro w H; simp only [Act.put]))
  | ((with_reducible refine g4_ rfl ?_); refine H.ldo rfl rB rfl rfl hB (by first | with_reducible exact cat2_1 (bc _) (bc _) rfl) (by rfl) ?_; simp only [Act.put, q1_, q2_, q3_])
  | (go_at_call 120; (with_reducible refine H.kc (cUb _ (HT.out.below H.below)) ?_; clear H; intro w H))
  )
   all_goals
    refine bodyPost_ret (results_ct rfl rfl (H.res rQ v2_ (ext_tri _ _ _ _ _ _ _ _ _ _ _ _) (by rfl))) rfl ⟨?_, H.below⟩
    rfl
theorem add_open2_ok (f m a b : Nat) (w0 : World) (hT : Tab w0) (g0 : Nat) (hB : Blk 27 w0 g0 (cat2 (bc a) (bc b))) (cM : ∀ w, Calls Tryz.prog 121 #[.int .u8 m] w fun e w' => e = .returned (.int .i64 0) ∧ w = w') (cF : ∀ w, Calls Tryz.prog 154 #[.int .u8 f] w fun e w' => e = .returned (.int .i64 0) ∧ w = w') (cUa : CT_ 120 #[.int .u8 f, BV a] (.tuple #[.agg (PT f a), .int .i64 0])) (cUb : CT_ 120 #[.int .u8 f, BV b] (.tuple #[.agg (PT f b), .int .i64 0])) :
  CR_ 96 #[.int .u8 f, .int .u8 m, .slice (some ⟨g0, 0, none⟩) 2 2] w0 (.tuple #[.agg (tri (clsN f a) (sigN f a) (xpN f a) (frN f a) (clsN f b) (sigN f b) (xpN f b) (frN f b) 0 0 0 0), .bool true]) := by
 have H := Own.start w0
 have HT := Lib.hid hT
 clear hT
 go_enter Tryz.func96, Tryz.ntmps96
 go_wp2_with (first
  | ((with_reducible refine g0_ rfl ?_); refine H.xb ?_; (intro g w H; simp only [Act.put, q1_, q2_, q3_]))
  | ((with_reducible refine g1_ rfl ?_); refine H.xa ?_; (intro g w H; simp only [Act.put, q1_, q2_, q3_]))
  | ((with_reducible refine g2_ rfl ?_); (first | refine H.xl ?_ | refine H.xm ?_); simp only [Act.put, q1_, q2_, q3_])
  | ((with_reducible refine g3_ rfl ?_); (first | refine H.xs ?_ | refine H.xt ?_); (intro w H; simp only [Act.put]))
  | (go_at_call 121; ((with_reducible refine (cM _).mono ?_); rintro e w' ⟨rfl, rfl⟩))
  | (go_at_call 154; ((with_reducible refine (cF _).mono ?_); rintro e w' ⟨rfl, rfl⟩))
  )
 go_loopw [23] (fun i wr => (i = .int .i64 0 ∧ Own w0 wr [(g, 101, (tri 0 0 0 0 0 0 0 0 0 0 0 0))]) ∨ (i = .int .i64 1 ∧ Own w0 wr [(g, 101, (tri (clsN f a) (sigN f a) (xpN f a) (frN f a) 0 0 0 0 0 0 0 0))]) ∨ (i = .int .i64 2 ∧ Own w0 wr [(g, 101, (tri (clsN f a) (sigN f a) (xpN f a) (frN f a) (clsN f b) (sigN f b) (xpN f b) (frN f b) 0 0 0 0))])) (fun i _ => 3 - (intOf i).toNat)
 case atStart => exact Or.inl ⟨rfl, H⟩
 case round =>
  clear H
  rcases hrel with ⟨rfl, H⟩ | ⟨rfl, H⟩ | ⟨rfl, H⟩
  ·go_wp2_with (first
  | ((with_reducible refine g0_ rfl ?_); refine H.xb ?_; (intro g w H; simp only [Act.put, q1_, q2_, q3_]))
  | ((with_reducible refine g1_ rfl ?_); refine H.xa ?_; (intro g w H; simp only [Act.put, q1_, q2_, q3_]))
  | ((with_reducible refine g2_ rfl ?_); (first | refine H.xl ?_ | refine H.xm ?_); simp only [Act.put, q1_, q2_, q3_])
  | ((with_reducible refine g3_ rfl ?_); (first | refine H.xs ?_ | refine H.xt ?_); (intro w H; simp only [Act.put]))
  | ((with_reducible refine g4_ rfl ?_); refine H.ldo rfl rB rfl rfl hB (by first | with_reducible exact cat2_0 (bc _) (bc _)) (by rfl) ?_; simp only [Act.put, q1_, q2_, q3_])
  | (go_at_call 120; (with_reducible refine H.kc (cUa _ (HT.out.below H.below)) ?_; clear H; intro w H))
  )
   all_goals
    go_roundw
    case rel => exact Or.inr (Or.inl ⟨by go_num, H.sub v5_⟩)
    case measure => simp [intOf]
  ·go_wp2_with (first
  | ((with_reducible refine g0_ rfl ?_); refine H.xb ?_; (intro g w H; simp only [Act.put, q1_, q2_, q3_]))
  | ((with_reducible refine g1_ rfl ?_); refine H.xa ?_; (intro g w H; simp only [Act.put, q1_, q2_, q3_]))
  | ((with_reducible refine g2_ rfl ?_); (first | refine H.xl ?_ | refine H.xm ?_); simp only [Act.put, q1_, q2_, q3_])
  | ((with_reducible refine g3_ rfl ?_); (first | refine H.xs ?_ | refine H.xt ?_); (intro w H; simp only [Act.put]))
  | ((with_reducible refine g4_ rfl ?_); refine H.ldo rfl rB rfl rfl hB (by first | with_reducible exact cat2_1 (bc _) (bc _) rfl) (by rfl) ?_; simp only [Act.put, q1_, q2_, q3_])
  | (go_at_call 120; (with_reducible refine H.kc (cUb _ (HT.out.below H.below)) ?_; clear H; intro w H))
  )
   all_goals
    go_roundw
    case rel => exact Or.inr (Or.inr (⟨by go_num, H.sub v5_⟩))
    case measure => simp [intOf]
  ·go_wp2_with (first
  | ((with_reducible refine g0_ rfl ?_); refine H.xb ?_; (intro g w H; simp only [Act.put, q1_, q2_, q3_]))
  | ((with_reducible refine g1_ rfl ?_); refine H.xa ?_; (intro g w H; simp only [Act.put, q1_, q2_, q3_]))
  | ((with_reducible refine g2_ rfl ?_); (first | refine H.xl ?_ | refine H.xm ?_); simp only [Act.put, q1_, q2_, q3_])
  | ((with_reducible refine g3_ rfl ?_); (first | refine H.xs ?_ | refine H.xt ?_); (intro w H; simp only [Act.put]))
  )
   all_goals
    refine bodyPost_ret (results_ct rfl rfl (H.res rQ v2_ (ext_tri _ _ _ _ _ _ _ _ _ _ _ _) (by rfl))) rfl ⟨?_, H.below⟩
    rfl
theorem add_canon (f : Nat) (c0 s0 f0 : Nat) (x0 : Int) (c1 s1 f1 : Nat) (x1 : Int) (w0 : World) (g0 : Nat) (hB : Blk 100 w0 g0 (cat2 (parts c0 s0 x0 f0) (parts c1 s1 x1 f1))) (cN : CK_ 76 #[.int .u8 f] (BV (nanN f))) :
  CR_ 98 #[.int .u8 f, .slice (some ⟨g0, 0, none⟩) 2 2] w0 (.tuple #[BV (nanN f), .int .u8 (cond (decide (c0 = 8) || decide (c1 = 8)) 16 0), .int .i64 0]) := by
 have H := Own.start w0
 go_enter Tryz.func98, Tryz.ntmps98
 go_wp2_with (first
  | ((with_reducible refine g0_ rfl ?_); refine H.xb ?_; (intro g w H; simp only [Act.put, q1_, q2_, q3_]))
  | ((with_reducible refine g1_ rfl ?_); refine H.xa ?_; (intro g w H; simp only [Act.put, q1_, q2_, q3_]))
  | ((with_reducible refine g2_ rfl ?_); (first | refine H.xl ?_ | refine H.xm ?_); simp only [Act.put, q1_, q2_, q3_])
  | ((with_reducible refine g3_ rfl ?_); (first | refine H.xs ?_ | refine H.xt ?_); (intro w H; simp only [Act.put]))
  )
 go_loopw [7, 12] (fun v i wr => (i = .int .i64 0 ∧ v = .int .u8 0 ∧ Own w0 wr [(g, 27, #[.int .u64 0, .int .u64 0])]) ∨ (i = .int .i64 1 ∧ v = .int .u8 (cond (decide (c0 = 8)) 16 0) ∧ Own w0 wr [(g, 27, #[.int .u64 0, .int .u64 0])]) ∨ (i = .int .i64 2 ∧ v = .int .u8 (cond (decide (c0 = 8) || decide (c1 = 8)) 16 0) ∧ Own w0 wr [(g, 27, #[.int .u64 0, .int .u64 0])])) (fun _ i _ => 3 - (intOf i).toNat)
 case atStart => exact Or.inl ⟨rfl, rfl, H⟩
 case round =>
  clear H
  rcases hrel with ⟨rfl, rfl, H⟩ | ⟨rfl, rfl, H⟩ | ⟨rfl, rfl, H⟩
  ·by_cases hc : c0 = 8
   ·have e1 : ((c0 : Int) == 8) = true := int_eq_true c0 8 hc
    go_wp2_with (first
  | ((with_reducible refine g0_ rfl ?_); refine H.xb ?_; (intro g w H; simp only [Act.put, q1_, q2_, q3_]))
  | ((with_reducible refine g1_ rfl ?_); refine H.xa ?_; (intro g w H; simp only [Act.put, q1_, q2_, q3_]))
  | ((with_reducible refine g2_ rfl ?_); (first | refine H.xl ?_ | refine H.xm ?_); simp only [Act.put, q1_, q2_, q3_])
  | ((with_reducible refine g3_ rfl ?_); (first | refine H.xs ?_ | refine H.xt ?_); (intro w H; simp only [Act.put]))
  | ((with_reducible refine g15_ rfl ?_); refine H.ldo rfl rP rfl rfl hB (by first | with_reducible exact cat2_0 (parts _ _ _ _) (parts _ _ _ _)) (by rfl) ?_; simp only [Act.put, q1_, q2_, q3_])
  )
    all_goals
     go_roundw
     case rel => exact Or.inr (Or.inl ⟨by go_num, (by with_reducible exact flag_on0 _ (by rw [decide_eq_true hc])), H.sub v5_⟩)
     case measure => simp [intOf]
   ·have e1 : ((c0 : Int) == 8) = false := int_eq_false c0 8 hc
    go_wp2_with (first
  | ((with_reducible refine g0_ rfl ?_); refine H.xb ?_; (intro g w H; simp only [Act.put, q1_, q2_, q3_]))
  | ((with_reducible refine g1_ rfl ?_); refine H.xa ?_; (intro g w H; simp only [Act.put, q1_, q2_, q3_]))
  | ((with_reducible refine g2_ rfl ?_); (first | refine H.xl ?_ | refine H.xm ?_); simp only [Act.put, q1_, q2_, q3_])
  | ((with_reducible refine g3_ rfl ?_); (first | refine H.xs ?_ | refine H.xt ?_); (intro w H; simp only [Act.put]))
  | ((with_reducible refine g15_ rfl ?_); refine H.ldo rfl rP rfl rfl hB (by first | with_reducible exact cat2_0 (parts _ _ _ _) (parts _ _ _ _)) (by rfl) ?_; simp only [Act.put, q1_, q2_, q3_])
  )
    all_goals
     go_roundw
     case rel => exact Or.inr (Or.inl ⟨by go_num, (by with_reducible exact flag_off0 _ (by rw [decide_eq_false hc])), H.sub v5_⟩)
     case measure => simp [intOf]
  ·by_cases hc : c1 = 8
   ·have e1 : ((c1 : Int) == 8) = true := int_eq_true c1 8 hc
    go_wp2_with (first
  | ((with_reducible refine g0_ rfl ?_); refine H.xb ?_; (intro g w H; simp only [Act.put, q1_, q2_, q3_]))
  | ((with_reducible refine g1_ rfl ?_); refine H.xa ?_; (intro g w H; simp only [Act.put, q1_, q2_, q3_]))
  | ((with_reducible refine g2_ rfl ?_); (first | refine H.xl ?_ | refine H.xm ?_); simp only [Act.put, q1_, q2_, q3_])
  | ((with_reducible refine g3_ rfl ?_); (first | refine H.xs ?_ | refine H.xt ?_); (intro w H; simp only [Act.put]))
  | ((with_reducible refine g15_ rfl ?_); refine H.ldo rfl rP rfl rfl hB (by first | with_reducible exact cat2_1 (parts _ _ _ _) (parts _ _ _ _) rfl) (by rfl) ?_; simp only [Act.put, q1_, q2_, q3_])
  )
    all_goals
     go_roundw
     case rel => exact Or.inr (Or.inr (⟨by go_num, (by with_reducible exact flag_on _ _ (by rw [decide_eq_true hc]; simp)), H.sub v5_⟩))
     case measure => simp [intOf]
   ·have e1 : ((c1 : Int) == 8) = false := int_eq_false c1 8 hc
    go_wp2_with (first
  | ((with_reducible refine g0_ rfl ?_); refine H.xb ?_; (intro g w H; simp only [Act.put, q1_, q2_, q3_]))
  | ((with_reducible refine g1_ rfl ?_); refine H.xa ?_; (intro g w H; simp only [Act.put, q1_, q2_, q3_]))
  | ((with_reducible refine g2_ rfl ?_); (first | refine H.xl ?_ | refine H.xm ?_); simp only [Act.put, q1_, q2_, q3_])
  | ((with_reducible refine g3_ rfl ?_); (first | refine H.xs ?_ | refine H.xt ?_); (intro w H; simp only [Act.put]))
  | ((with_reducible refine g15_ rfl ?_); refine H.ldo rfl rP rfl rfl hB (by first | with_reducible exact cat2_1 (parts _ _ _ _) (parts _ _ _ _) rfl) (by rfl) ?_; simp only [Act.put, q1_, q2_, q3_])
  )
    all_goals
     go_roundw
     case rel => exact Or.inr (Or.inr (⟨by go_num, (by with_reducible exact flag_off _ _ (by rw [decide_eq_false hc]; simp)), H.sub v5_⟩))
     case measure => simp [intOf]
  ·go_wp2_with (first
  | ((with_reducible refine g0_ rfl ?_); refine H.xb ?_; (intro g w H; simp only [Act.put, q1_, q2_, q3_]))
  | ((with_reducible refine g1_ rfl ?_); refine H.xa ?_; (intro g w H; simp only [Act.put, q1_, q2_, q3_]))
  | ((with_reducible refine g2_ rfl ?_); (first | refine H.xl ?_ | refine H.xm ?_); simp only [Act.put, q1_, q2_, q3_])
  | ((with_reducible refine g3_ rfl ?_); (first | refine H.xs ?_ | refine H.xt ?_); (intro w H; simp only [Act.put]))
  | (go_at_call 76; (with_reducible refine H.kc (cN _) ?_; clear H; intro w H))
  )
   all_goals
    refine bodyPost_ret (results_ctt rfl rfl (H.res rB v2_ v3_ (by rfl))) rfl ⟨?_, H.below⟩
    rfl
theorem odd_lim (n : Nat) : (Go.bits .and .u64 (limb n 0) 1 == 1) = decide (n % 2 = 1) := by
 have h1 : (1 : Int) = limb 1 0 := rfl
 rw [h1, limb_and, show n &&& 1 = n % 2 from Nat.and_one_is_mod n, ← h1]
 unfold limb limbN
 rw [Nat.mul_zero, Nat.pow_zero, Nat.div_one, Nat.mod_eq_of_lt (by omega), Bool.eq_iff_iff, beq_iff_eq, decide_eq_true_iff]
 omega
theorem halfN_in (a n : Nat) : halfN a n = -1 ∨ halfN a n = 0 ∨ halfN a n = 1 := by
 unfold halfN
 split
 ·simp
 ·split
  ·split <;> simp
  ·simp
theorem roundGrid_any (m s : Nat) (e at_ : Int) (neg mo : Bool) (w : World) (hT : Tab w) (hm : m < 256) (hs : s < top6) (h1 : -2000000 ≤ e) (h2 : e ≤ 2000000) (h3 : -2000000 ≤ at_) (h4 : at_ ≤ 2000000) (hf : e - at_ ≤ 384) :
  CR_ 144 #[.int .u8 m, RV neg s e mo, .int .i64 at_] w (.tuple #[W (gridN m neg s e mo at_).1, .bool (gridN m neg s e mo at_).2]) := by
 by_cases hn : at_ ≤ e
 ·have cL := fun w => wideLeft_any s (-(at_ - e)) w hs
  have hc : clip (-(at_ - e)) = (e - at_).toNat := by unfold clip; omega
  rw [hc] at cL
  have := roundGrid_up m s _ e at_ (at_ - e) neg mo _ w hT h1 h2 h3 h4 rfl (by omega) cL
  simp only [gridN, if_pos hn]
  exact this
 ·have cC := fun w hT => jamCut_any s (at_ - e) w hs hT
  have hin := halfN_in s (at_ - e).toNat
  have cR := fun (half : Int) (hh : half = -1 ∨ half = 0 ∨ half = 1) (ex : Bool) w => roundUp_any m neg (Go.bits .and .u64 (limb (s / 2 ^ (at_ - e).toNat) 0) 1 == 1) half ex w hm hh
  simp only [gridN, if_neg hn]
  cases mo with
  | false =>
   simp only [Bool.false_and, cond_false, Bool.not_false, Bool.and_true]
   have cR' := cR _ hin (decide (s % 2 ^ (at_ - e).toNat = 0))
   rw [← odd_lim]
   cases hu : upB m neg (Go.bits .and .u64 (limb (s / 2 ^ (at_ - e).toNat) 0) 1 == 1) (halfN s (at_ - e).toNat) (decide (s % 2 ^ (at_ - e).toNat = 0)) with
   | true =>
    rw [hu] at cR'
    exact roundGrid_f_t m s _ e at_ (at_ - e) _ neg _ w hT h1 h2 h3 h4 rfl (by omega) cC cR'
   | false =>
    rw [hu] at cR'
    exact roundGrid_f_f m s _ e at_ (at_ - e) _ neg _ w hT h1 h2 h3 h4 rfl (by omega) cC cR'
  | true =>
   simp only [Bool.true_and, Bool.not_true, Bool.and_false]
   rw [← odd_lim]
   by_cases hz : halfN s (at_ - e).toNat = 0
   ·have hz' : (halfN s (at_ - e).toNat == 0) = true := by rw [hz]; rfl
    have cR' := cR 1 (by omega) false
    rw [decide_eq_true hz, cond_true]
    cases hu : upB m neg (Go.bits .and .u64 (limb (s / 2 ^ (at_ - e).toNat) 0) 1 == 1) 1 false with
    | true =>
     rw [hu] at cR'
     exact roundGrid_tz_t m s _ e at_ (at_ - e) _ neg _ w hT h1 h2 h3 h4 rfl (by omega) hz' cC cR'
    | false =>
     rw [hu] at cR'
     exact roundGrid_tz_f m s _ e at_ (at_ - e) _ neg _ w hT h1 h2 h3 h4 rfl (by omega) hz' cC cR'
   ·have hz' : (halfN s (at_ - e).toNat == 0) = false := by rw [beq_eq_false_iff_ne]; exact hz
    have cR' := cR _ hin false
    rw [decide_eq_false hz, cond_false]
    cases hu : upB m neg (Go.bits .and .u64 (limb (s / 2 ^ (at_ - e).toNat) 0) 1 == 1) (halfN s (at_ - e).toNat) false with
    | true =>
     rw [hu] at cR'
     exact roundGrid_tn_t m s _ e at_ (at_ - e) _ neg _ w hT h1 h2 h3 h4 rfl (by omega) hz' cC cR'
    | false =>
     rw [hu] at cR'
     exact roundGrid_tn_f m s _ e at_ (at_ - e) _ neg _ w hT h1 h2 h3 h4 rfl (by omega) hz' cC cR'
end Go.Proofs.YtgmhmpflmgfcdaaGreatDoor
