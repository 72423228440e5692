/- Part 39 of the proof. -/
import Derived.Test.YtgmhmpflmgfcdaaGreatDoorRows
import Derived.Test.YtgmhmpflmgfcdaaGreatDoorTie
import Derived.Test.YtgmhmpflmgfcdaaGreatDoorCards
import Derived.WalkKit
import Derived.ProofKit
import Derived.LaidMore
import Derived.OpenShut
import Derived.Stop.Joined
import Derived.SevenTiedAt
import Derived.Lib.SmallJoins
import Derived.ChangeOld
import Derived.Below
import Derived.Carry
import Derived.Deep.SlicePairs
import Derived.Test.YtgmhmpflmgfcdaaGreatDoorHm1
import Derived.Test.YtgmhmpflmgfcdaaGreatDoorHm2
import Derived.Test.YtgmhmpflmgfcdaaGreatDoorHm3
import Derived.Test.YtgmhmpflmgfcdaaGreatDoorHm5
import Derived.Test.YtgmhmpflmgfcdaaGreatDoorHm6
import Derived.Test.YtgmhmpflmgfcdaaGreatDoorHm7
import Derived.Test.YtgmhmpflmgfcdaaGreatDoorHm9
import Derived.Test.YtgmhmpflmgfcdaaGreatDoorHm11
import Derived.Test.YtgmhmpflmgfcdaaGreatDoorHm38
set_option linter.unusedSimpArgs false
set_option linter.unusedVariables false
set_option linter.unnecessarySimpa false
set_option maxRecDepth 100000
set_option maxHeartbeats 3200000
namespace Go.Proofs.YtgmhmpflmgfcdaaGreatDoor
open Go.RowKit Go.Proofs.YtgmhmpflmgfcdaaGreatDoorW.PrintWords Go.Proofs.YtgmhmpflmgfcdaaGreatDoor.PDivQuotients
def flA (r : Nat × Nat) : Value := .tuple #[BV r.1, .int .u8 r.2]
theorem src_topQ (root : Bool) (n d : Nat) (e : Int) (hd : 0 < d) (hn : n ≠ 0) : Top (srcX root n d e hd) (topR root (topX n d + e)) := by
 cases root
 ·exact rat_top n d e hn hd
 ·exact root_top _ _ (rat_top n d e hn hd)
theorem numX_zero (g : Nat) (h : g = 0) : numX g 1 = 0 := by unfold numX; rw [if_pos h]
theorem lenN_div_le (g k : Nat) : lenN (g / k) ≤ lenN g := len_monoQ _ _ (Nat.div_le_self g k)
theorem r9deliver_any (f m : Nat) (neg root : Bool) (n d : Nat) (e : Int) (w : World) (hf : f < 4) (hm : m < 5) (h0 : n ≠ 0) (hn : lenN n ≤ 100000) (hd : lenN d ≤ 20000) (hd0 : 0 < d) (he : -200000 ≤ e) (he2 : e ≤ 200000) (hrt : root = false := by first | assumption | rfl) :
  CR_ 152 #[.int .u8 f, .int .u8 m, exV neg n d e, .bool root] w (flA (deliverR (srcX root n d e hd0) f m neg (topR root (topX n d + e)))) := by
 have hnb : nb n ≤ 16384 := by unfold nb; omega
 have hdb : nb d ≤ 16384 := by unfold nb; omega
 obtain ⟨p1, p2, -, -, -, -⟩ := formB f hf
 obtain ⟨-, -, -, k4, k5, k6, -, -⟩ := formK f hf
 have cT := fun w => r9top_any neg root n d e w h0 hnb hdb (by omega) (by omega)
 have cM := fun w => r7Emin_any f w
 have cP := fun w => r7Precision_any f w
 have cX := fun w => r7Emax_any f w
 have cO := fun w => r9Over_any f m neg w hf hm
 have cY := fun w => r9tiny_any f m neg root n d e w hf hm h0 hn hd hd0 he he2
 have ht := topX_bound n d
 have hTop := src_topQ root n d e hd0 h0
 obtain ⟨T, hT⟩ : ∃ T, topR root (topX n d + e) = T := ⟨_, rfl⟩
 rw [hT] at hTop ⊢
 simp only [hT] at cT cY
 have hTb : -2000000 ≤ T ∧ T ≤ 2000000 := by rw [← hT]; unfold topR; split <;> omega
 have gb := grid_bounds (srcX root n d e hd0) f m neg T hf hTop
 unfold deliverR
 by_cases h1 : (eF f : Int) < T
 ·rw [if_pos h1]
  exact r9Dl_x _ f m (pF f) (eF f) neg root _ _ e T (eminI f) w p2 hTb.1 hTb.2 (by omega) (by omega) cT cP cX (decide_eq_true h1) cO
 rw [if_neg h1]
 by_cases h2 : T < eminI f
 ·have ha : atN f T = (eminI f - (pF f : Int) + 1) := by unfold atN; omega
  rw [ha] at gb ⊢
  have g1 : root = false → e - (eminI f - (pF f : Int) + 1) ≤ 29990 := by
   rintro rfl
   have hT' : topX n d + e = T := hT
   omega
  have g2 : root = true → e - 2 * (eminI f - (pF f : Int) + 1) ≤ 29990 := by
   rintro rfl
   have hT' : (topX n d + e) / 2 = T := hT
   omega
  have hS := src_nb root n d e (eminI f - (pF f : Int) + 1) hd0 hn g1 g2
  have cF := fun w => r9find_any neg root n d e (eminI f - (pF f : Int) + 1) w hnb hdb hd0 (by omega) (by omega) (by omega) (by omega) hn g1 g2
  have cK := fun w => r9taken_any (srcX root n d e hd0) m neg (eminI f - (pF f : Int) + 1) w hm hS
  have hx : (gridR (srcX root n d e hd0) m neg (eminI f - (pF f : Int) + 1)).2 = (srcX root n d e hd0).ex (eminI f - (pF f : Int) + 1) := rfl
  rw [hx]
  obtain ⟨g, hg⟩ : ∃ g, (gridR (srcX root n d e hd0) m neg (eminI f - (pF f : Int) + 1)).1 = g := ⟨_, rfl⟩
  rw [hg] at gb ⊢
  simp only [hg] at cK
  have hgl : lenN g ≤ 114 := (lenN_le g 114).2 (Nat.lt_of_le_of_lt gb.1 (Nat.pow_lt_pow_right (by decide) (by omega)))
  have hgb : nb g ≤ 16384 := by unfold nb; omega
  have cA := fun w => r6Make_any neg g 1 (eminI f - (pF f : Int) + 1) w hgb (by decide) (by decide) (by omega) (by omega)
  rw [strB_one] at cA
  by_cases h3 : g = 0
  ·obtain ⟨s1, s2⟩ := str_noneO (numX g 1) (numX_zero g h3)
   rw [if_pos h3]
   exact r9Dl_nt 0 _ 0 _ _ _ _ _ _ _ _ _ _ f m (pF f) (eF f) neg root _ _ e T (eminI f) w p2 hTb.1 hTb.2 (by omega) (by omega) cT cP cX (decide_eq_false h1) cM (decide_eq_true h2) cF cK cA s1 s2 (fun w => r7Zero_any f neg w hf)
  obtain ⟨x1, x2, x3⟩ := numX_one g h3 (eminI f - (pF f : Int) + 1)
  obtain ⟨-, -, l3⟩ := low_split g h3
  have x4 : negX' neg g = neg := by unfold negX'; rw [if_neg h3]
  rw [x1, x2, x3, x4] at cA
  obtain ⟨s1, s2⟩ := str_fullO (g / 2 ^ lowZ g) l3
  have hlz := lowZ_lt g h3
  have cB := fun w => r8Of_any f neg (g / 2 ^ lowZ g) ((eminI f - (pF f : Int) + 1) + lowZ g) w hf l3 (Nat.le_trans (lenN_div_le g _) (by omega)) (by omega) (by omega)
  have ho := ofR_enc f neg g (eminI f - (pF f : Int) + 1) hf h3 gb.1 gb.2.2 (by rcases gb.2.1 with h | h; exact Or.inl h; exact Or.inr h)
  rw [ho] at cB
  rw [if_neg h3]
  by_cases h4 : (eF f : Int) < lenN g - 1 + (eminI f - (pF f : Int) + 1)
  ·rw [if_pos h4] at cB ⊢
   exact r9Dl_ot _ 0 _ _ _ _ _ _ _ _ _ _ _ f m (pF f) (eF f) neg root _ _ e T (eminI f) w p2 hTb.1 hTb.2 (by omega) (by omega) cT cP cX (decide_eq_false h1) cM (decide_eq_true h2) cF cK cA s1 s2 cB cO
  rw [if_neg h4] at cB ⊢
  cases hE : (srcX root n d e hd0).ex (eminI f - (pF f : Int) + 1)
  ·rw [hE] at cF cK
   rw [if_neg (by decide)]
   cases hY : tinyR (srcX root n d e hd0) f m neg T
   ·rw [hY] at cY
    exact r9Dl_it 0 0 _ _ _ _ _ _ _ _ _ _ f m (pF f) (eF f) neg root _ _ e T (eminI f) w p2 hTb.1 hTb.2 (by omega) (by omega) cT cP cX (decide_eq_false h1) cM (decide_eq_true h2) cF cK cA s1 s2 cB cY
   ·rw [hY] at cY
    exact r9Dl_ut 0 0 _ _ _ _ _ _ _ _ _ _ f m (pF f) (eF f) neg root _ _ e T (eminI f) w p2 hTb.1 hTb.2 (by omega) (by omega) cT cP cX (decide_eq_false h1) cM (decide_eq_true h2) cF cK cA s1 s2 cB cY
  ·rw [hE] at cF cK
   rw [if_pos rfl]
   exact r9Dl_et 0 0 _ _ _ _ _ _ _ _ _ _ f m (pF f) (eF f) neg root _ _ e T (eminI f) w p2 hTb.1 hTb.2 (by omega) (by omega) cT cP cX (decide_eq_false h1) cM (decide_eq_true h2) cF cK cA s1 s2 cB
 ·have ha : atN f T = (T - (pF f : Int) + 1) := by unfold atN; omega
  rw [ha] at gb ⊢
  have g1 : root = false → e - (T - (pF f : Int) + 1) ≤ 29990 := by
   rintro rfl
   have hT' : topX n d + e = T := hT
   omega
  have g2 : root = true → e - 2 * (T - (pF f : Int) + 1) ≤ 29990 := by
   rintro rfl
   have hT' : (topX n d + e) / 2 = T := hT
   omega
  have hS := src_nb root n d e (T - (pF f : Int) + 1) hd0 hn g1 g2
  have cF := fun w => r9find_any neg root n d e (T - (pF f : Int) + 1) w hnb hdb hd0 (by omega) (by omega) (by omega) (by omega) hn g1 g2
  have cK := fun w => r9taken_any (srcX root n d e hd0) m neg (T - (pF f : Int) + 1) w hm hS
  have hx : (gridR (srcX root n d e hd0) m neg (T - (pF f : Int) + 1)).2 = (srcX root n d e hd0).ex (T - (pF f : Int) + 1) := rfl
  rw [hx]
  obtain ⟨g, hg⟩ : ∃ g, (gridR (srcX root n d e hd0) m neg (T - (pF f : Int) + 1)).1 = g := ⟨_, rfl⟩
  rw [hg] at gb ⊢
  simp only [hg] at cK
  have hgl : lenN g ≤ 114 := (lenN_le g 114).2 (Nat.lt_of_le_of_lt gb.1 (Nat.pow_lt_pow_right (by decide) (by omega)))
  have hgb : nb g ≤ 16384 := by unfold nb; omega
  have cA := fun w => r6Make_any neg g 1 (T - (pF f : Int) + 1) w hgb (by decide) (by decide) (by omega) (by omega)
  rw [strB_one] at cA
  by_cases h3 : g = 0
  ·obtain ⟨s1, s2⟩ := str_noneO (numX g 1) (numX_zero g h3)
   rw [if_pos h3]
   exact r9Dl_nf 0 _ 0 _ _ _ _ _ _ _ _ _ _ f m (pF f) (eF f) neg root _ _ e T (eminI f) w p2 hTb.1 hTb.2 (by omega) (by omega) cT cP cX (decide_eq_false h1) cM (decide_eq_false h2) cF cK cA s1 s2 (fun w => r7Zero_any f neg w hf)
  obtain ⟨x1, x2, x3⟩ := numX_one g h3 (T - (pF f : Int) + 1)
  obtain ⟨-, -, l3⟩ := low_split g h3
  have x4 : negX' neg g = neg := by unfold negX'; rw [if_neg h3]
  rw [x1, x2, x3, x4] at cA
  obtain ⟨s1, s2⟩ := str_fullO (g / 2 ^ lowZ g) l3
  have hlz := lowZ_lt g h3
  have cB := fun w => r8Of_any f neg (g / 2 ^ lowZ g) ((T - (pF f : Int) + 1) + lowZ g) w hf l3 (Nat.le_trans (lenN_div_le g _) (by omega)) (by omega) (by omega)
  have ho := ofR_enc f neg g (T - (pF f : Int) + 1) hf h3 gb.1 gb.2.2 (by rcases gb.2.1 with h | h; exact Or.inl h; exact Or.inr h)
  rw [ho] at cB
  rw [if_neg h3]
  by_cases h4 : (eF f : Int) < lenN g - 1 + (T - (pF f : Int) + 1)
  ·rw [if_pos h4] at cB ⊢
   exact r9Dl_of _ 0 _ _ _ _ _ _ _ _ _ _ _ f m (pF f) (eF f) neg root _ _ e T (eminI f) w p2 hTb.1 hTb.2 (by omega) (by omega) cT cP cX (decide_eq_false h1) cM (decide_eq_false h2) cF cK cA s1 s2 cB cO
  rw [if_neg h4] at cB ⊢
  cases hE : (srcX root n d e hd0).ex (T - (pF f : Int) + 1)
  ·rw [hE] at cF cK
   rw [if_neg (by decide)]
   cases hY : tinyR (srcX root n d e hd0) f m neg T
   ·rw [hY] at cY
    exact r9Dl_if 0 0 _ _ _ _ _ _ _ _ _ _ f m (pF f) (eF f) neg root _ _ e T (eminI f) w p2 hTb.1 hTb.2 (by omega) (by omega) cT cP cX (decide_eq_false h1) cM (decide_eq_false h2) cF cK cA s1 s2 cB cY
   ·rw [hY] at cY
    exact r9Dl_uf 0 0 _ _ _ _ _ _ _ _ _ _ f m (pF f) (eF f) neg root _ _ e T (eminI f) w p2 hTb.1 hTb.2 (by omega) (by omega) cT cP cX (decide_eq_false h1) cM (decide_eq_false h2) cF cK cA s1 s2 cB cY
  ·rw [hE] at cF cK
   rw [if_pos rfl]
   exact r9Dl_ef 0 0 _ _ _ _ _ _ _ _ _ _ f m (pF f) (eF f) neg root _ _ e T (eminI f) w p2 hTb.1 hTb.2 (by omega) (by omega) cT cP cX (decide_eq_false h1) cM (decide_eq_false h2) cF cK cA s1 s2 cB
theorem r6odd_any (v : Nat) (w : World) (hv : nb v ≤ 100000) : CR_ 225 #[.string (strB v)] w (.bool (decide (v % 2 = 1))) :=
 (z06_odd.calls _ _ w (odd_strB v hv)).mono fun _ _ h => ⟨h.1, h.2.below⟩
structure OneF (n d : Nat) (e : Int) : Prop where
 num : n ≠ 0
 odd : n % 2 = 1
 den : d % 2 = 1
 gcd : Nat.gcd n d = 1
 len : lenN n ≤ 60000
 lend : lenN d ≤ 20000
 lo : -200000 ≤ e
 hi : e ≤ 200000
theorem oneF (n d : Nat) (e : Int) (hn : n ≠ 0) (hd : d ≠ 0) (h1 : lenN n ≤ 19000) (h2 : lenN d ≤ 19000) (h3 : -150000 ≤ e) (h4 : e ≤ 150000) : OneF (numX n d) (denX n d) (expX n d e) := by
 obtain ⟨o1, o2, o3⟩ := mkx_odd n d hn hd
 obtain ⟨-, -, x3, -⟩ := mkx_parts n d hn hd
 have a1 : lenN (numX n d) ≤ lenN n := by
  unfold numX; rw [if_neg hn]
  exact Nat.le_trans (lenN_div_le _ _) (lenN_div_le _ _)
 have a2 : lenN (denX n d) ≤ lenN d := by
  unfold denX; rw [if_neg hn]
  exact Nat.le_trans (lenN_div_le _ _) (lenN_div_le _ _)
 have z1 := lowZ_lt n hn
 have z2 := lowZ_lt d hd
 have a3 : expX n d e = e + lowZ n - lowZ d := by unfold expX; rw [if_neg hn]
 exact ⟨x3, o1, o2, o3, by omega, by omega, by rw [a3]; omega, by rw [a3]; omega⟩
theorem r6May_any (neg : Bool) (n d : Nat) (e : Int) (w : World) (h : OneF n d e) :
  CR_ 207 #[exV neg n d e] w (.bool true) := by
 have hn : nb n ≤ 16384 := by have := h.len; unfold nb; omega
 have hd : nb d ≤ 16384 := by have := h.lend; unfold nb; omega
 have l1 := h.lo
 have l2 := h.hi
 obtain ⟨f1, f1'⟩ := strE_full n h.num
 obtain ⟨g1, g1'⟩ := strE_one (Nat.gcd n d) h.gcd
 have cO := fun w => r6odd_any d w (by omega)
 have co := fun w => r6odd_any n w (by omega)
 rw [decide_eq_true h.den] at cO
 rw [decide_eq_true h.odd] at co
 exact r6May_w neg _ _ _ e w (by omega) (by omega) (decide_eq_false (by omega)) (decide_eq_false (by omega)) (fun w => r5May_any n w hn) (fun w => r5May_any d w hd) f1 f1' cO co (fun w => r5Gcd_any n d w hn hd) g1 g1'
theorem r9Fault_any (f m : Nat) (neg : Bool) (n d : Nat) (e : Int) (w : World) (hf : f < 4) (hm : m < 5) (h : OneF n d e) :
  CR_ 151 #[.int .u8 f, .int .u8 m, exV neg n d e] w (.int .i64 0) := by
 have hn : nb n ≤ 8192 := by have := h.len; unfold nb; omega
 have hd : nb d ≤ 8192 := by have := h.lend; unfold nb; omega
 have cR := fun w => r7Right_any f w
 have cM := fun w => r7RightMode_any m w
 rw [decide_eq_true hf] at cR
 rw [decide_eq_true hm] at cM
 exact r9Fault_w f m neg _ _ e w (decide_eq_false (by rw [size_strB]; omega)) (decide_eq_false (by rw [size_strB]; omega)) cR cM (fun w => r6May_any neg n d e w h)
theorem r9Round_any (f m : Nat) (neg : Bool) (n d : Nat) (e : Int) (w : World) (hf : f < 4) (hm : m < 5) (h : OneF n d e) :
  CR_ 64 #[.int .u8 f, .int .u8 m, exV neg n d e] w (.tuple #[BV (rndX f m neg n d e).1, .int .u8 ((rndX f m neg n d e).2 : Nat), .int .i64 0]) := by
 have hd0 : 0 < d := by have := h.den; omega
 obtain ⟨f1, f1'⟩ := strE_full n h.num
 have cD := fun w => r9deliver_any f m neg false n d e w hf hm h.num (by have := h.len; omega) h.lend hd0 h.lo h.hi
 rw [rnd_src f m neg n d e hd0]
 exact r9Round_w f m _ _ _ _ e neg w (fun w => r9Fault_any f m neg n d e w hf hm h) f1 f1' cD
theorem sig_ne (f a : Nat) (hfa : fitsB f a = true) (h1 : nanB (clsN f a) = false) (i1 : infB (clsN f a) = false) (z1 : zerB (clsN f a) = false) : sigN f a ≠ 0 := by
 intro h0
 have := (sig_zero f a hfa (by intro h; rw [show nanB (clsN f a) = true from decide_eq_true h] at h1; cases h1) (by intro h; rw [show infB (clsN f a) = true by unfold infB; rcases h with h | h <;> rw [h] <;> rfl] at i1; cases i1)).1 h0
 rw [show zerB (clsN f a) = true by unfold zerB; rcases this with h | h <;> rw [h] <;> rfl] at z1; cases z1
theorem inf_zer (c : Nat) (h : infB c = true) : zerB c = false := by rcases infB_cases c h with rfl | rfl <;> rfl
def sO (f a : Nat) : Nat := sigN f a / 2 ^ lowZ (sigN f a)
def xO (f a : Nat) : Int := xpN f a + lowZ (sigN f a)
theorem sO_split (f a : Nat) (na : sigN f a ≠ 0) : sigN f a = sO f a * 2 ^ lowZ (sigN f a) ∧ sO f a % 2 = 1 ∧ sO f a ≠ 0 := low_split _ na
theorem oneB (f a : Nat) (fa : fitsB f a = true) (na : sigN f a ≠ 0) : sO f a ≠ 0 ∧ nb (sO f a) ≤ 15 ∧ lenN (sO f a) ≤ 113 ∧ (-40000 ≤ xO f a ∧ xO f a ≤ 40113) := by
 obtain ⟨s1, s2, s3⟩ := sO_split f a na
 have l1 : lenN (sigN f a) ≤ 113 := (lenN_le _ 113).2 (sigN_113 f a fa)
 have l2 : lenN (sO f a) ≤ lenN (sigN f a) := lenN_div_le _ _
 have z1 := lowZ_lt _ na
 obtain ⟨x1, x2⟩ := xpN_bound f a fa
 exact ⟨s3, by unfold nb; omega, by omega, by unfold xO; omega, by unfold xO; omega⟩
theorem r8ValueF_any (f a : Nat) (w : World) (fa : fitsB f a = true) (h1 : nanB (clsN f a) = false) (i1 : infB (clsN f a) = false) (na : sigN f a ≠ 0) :
  CR_ 88 #[.int .u8 f, BV a] w (.tuple #[exV (negN f a) (sO f a) 1 (xO f a), .int .i64 0]) := by
 have h := r8Value_any f a w fa h1 i1
 obtain ⟨e1, e2, e3⟩ := numX_one (sigN f a) na (xpN f a)
 have e4 : negX' (negN f a) (sigN f a) = negN f a := by unfold negX'; rw [if_neg na]
 rw [e1, e2, e3, e4] at h
 exact h
theorem mul_rnd (f m : Nat) (neg : Bool) (a b : Nat) (na : sigN f a ≠ 0) (nb : sigN f b ≠ 0) : rndX f m neg (sO f a * sO f b) (1 * 1) (xO f a + xO f b) = rndX f m neg (sigN f a * sigN f b) 1 (xpN f a + xpN f b) := by
 obtain ⟨a1, a2, a3⟩ := sO_split f a na
 obtain ⟨b1, b2, b3⟩ := sO_split f b nb
 have h := rnd_low f m neg (sO f a * sO f b) 1 (lowZ (sigN f a) + lowZ (sigN f b)) 0 (xpN f a + xpN f b) (Nat.mul_ne_zero a3 b3) (by decide)
 have e1 : sO f a * sO f b * 2 ^ (lowZ (sigN f a) + lowZ (sigN f b)) = sigN f a * sigN f b := by
  rw [Nat.pow_add, Nat.mul_mul_mul_comm, ← a1, ← b1]
 rw [e1, Nat.pow_zero, Nat.one_mul] at h
 rw [h, Nat.one_mul]
 congr 1
 unfold xO; omega
theorem mul_len (x y p q : Nat) (hx : lenN x ≤ p) (hy : lenN y ≤ q) : lenN (x * y) ≤ p + q := by
 refine (lenN_le _ _).2 ?_
 rw [Nat.pow_add]
 exact Nat.mul_lt_mul'' ((lenN_le _ _).1 hx) ((lenN_le _ _).1 hy)
theorem r8IsInf_nt (f b : Nat) (w : World) (hf : f < 4) (hb : b < 2 ^ (64 * 2)) :
  CR_ 53 #[.int .u8 f, BV b] w (.bool (infB (clsN f b))) := by
 by_cases hc : clsN f b = 0
 ·exact r8IsInf_t f b _ w hc (fun w => r8Class_any f b w hf hb)
 ·exact r8IsInf_f f b _ w hc (fun w => r8Class_any f b w hf hb)
theorem r8IsZero_nt (f b : Nat) (w : World) (hf : f < 4) (hb : b < 2 ^ (64 * 2)) :
  CR_ 84 #[.int .u8 f, BV b] w (.bool (zerB (clsN f b))) := by
 by_cases hc : clsN f b = 3
 ·exact r8IsZero_t f b _ w hc (fun w => r8Class_any f b w hf hb)
 ·exact r8IsZero_f f b _ w hc (fun w => r8Class_any f b w hf hb)
theorem r12Mul_no (f m a b z : Nat) (fl : Int) (sa sb na nb nq : Bool) (n1 d1 n2 d2 n3 d3 : ByteArray) (e1 e2 e3 er : Int) (w : World) (cT : ∀ w g, Blk 27 w g (cat2 (bc a) (bc b)) → CR_ 82 #[.int .u8 f, .int .u8 m, .slice (some ⟨g, 0, none⟩) 2 2] w (.bool false))  :
  CR_ 95 #[.int .u8 f, .int .u8 m, BV a, BV b] w (.tuple #[BV 0, .int .u8 0, .int .i64 2]) := by
 have H := Own.start w
 go_enter Tryz.func95, Tryz.ntmps95
 exact walk1
theorem r12Mul_na (f m a b z : Nat) (fl : Int) (sa sb na nb nq : Bool) (n1 d1 n2 d2 n3 d3 : ByteArray) (e1 e2 e3 er : Int) (w : World) (cT : ∀ w g, Blk 27 w g (cat2 (bc a) (bc b)) → CR_ 82 #[.int .u8 f, .int .u8 m, .slice (some ⟨g, 0, none⟩) 2 2] w (.bool true)) (cNa : CK_ 51 #[.int .u8 f, BV a] (.bool true)) (cC : ∀ w g, Blk 27 w g (cat2 (bc a) (bc b)) → CR_ 83 #[.int .u8 f, .slice (some ⟨g, 0, none⟩) 2 2] w (.tuple #[BV z, .int .u8 fl]))  :
  CR_ 95 #[.int .u8 f, .int .u8 m, BV a, BV b] w (.tuple #[BV z, .int .u8 fl, .int .i64 0]) := by
 have H := Own.start w
 go_enter Tryz.func95, Tryz.ntmps95
 exact walk1
theorem r12Mul_nb (f m a b z : Nat) (fl : Int) (sa sb na nb nq : Bool) (n1 d1 n2 d2 n3 d3 : ByteArray) (e1 e2 e3 er : Int) (w : World) (cT : ∀ w g, Blk 27 w g (cat2 (bc a) (bc b)) → CR_ 82 #[.int .u8 f, .int .u8 m, .slice (some ⟨g, 0, none⟩) 2 2] w (.bool true)) (cNa : CK_ 51 #[.int .u8 f, BV a] (.bool false)) (cNb : CK_ 51 #[.int .u8 f, BV b] (.bool true)) (cC : ∀ w g, Blk 27 w g (cat2 (bc a) (bc b)) → CR_ 83 #[.int .u8 f, .slice (some ⟨g, 0, none⟩) 2 2] w (.tuple #[BV z, .int .u8 fl]))  :
  CR_ 95 #[.int .u8 f, .int .u8 m, BV a, BV b] w (.tuple #[BV z, .int .u8 fl, .int .i64 0]) := by
 have H := Own.start w
 go_enter Tryz.func95, Tryz.ntmps95
 exact walk1
theorem r12Mul_II (f m a b z : Nat) (fl : Int) (sa sb na nb nq : Bool) (n1 d1 n2 d2 n3 d3 : ByteArray) (e1 e2 e3 er : Int) (w : World) (cT : ∀ w g, Blk 27 w g (cat2 (bc a) (bc b)) → CR_ 82 #[.int .u8 f, .int .u8 m, .slice (some ⟨g, 0, none⟩) 2 2] w (.bool true)) (cNa : CK_ 51 #[.int .u8 f, BV a] (.bool false)) (cNb : CK_ 51 #[.int .u8 f, BV b] (.bool false)) (cSa : CK_ 50 #[.int .u8 f, BV a] (.bool sa)) (cSb : CK_ 50 #[.int .u8 f, BV b] (.bool sb)) (cIa : CK_ 53 #[.int .u8 f, BV a] (.bool true)) (cIb : CK_ 53 #[.int .u8 f, BV b] (.bool true)) (cZa : CK_ 84 #[.int .u8 f, BV a] (.bool false)) (cZb : CK_ 84 #[.int .u8 f, BV b] (.bool false)) (cI : CK_ 86 #[.int .u8 f, .bool (!(sa == sb))] (BV z)) :
  CR_ 95 #[.int .u8 f, .int .u8 m, BV a, BV b] w (.tuple #[BV z, .int .u8 0, .int .i64 0]) := by
 have H := Own.start w
 go_enter Tryz.func95, Tryz.ntmps95
 exact walk1
theorem r12Mul_IZ (f m a b z : Nat) (fl : Int) (sa sb na nb nq : Bool) (n1 d1 n2 d2 n3 d3 : ByteArray) (e1 e2 e3 er : Int) (w : World) (cT : ∀ w g, Blk 27 w g (cat2 (bc a) (bc b)) → CR_ 82 #[.int .u8 f, .int .u8 m, .slice (some ⟨g, 0, none⟩) 2 2] w (.bool true)) (cNa : CK_ 51 #[.int .u8 f, BV a] (.bool false)) (cNb : CK_ 51 #[.int .u8 f, BV b] (.bool false)) (cSa : CK_ 50 #[.int .u8 f, BV a] (.bool sa)) (cSb : CK_ 50 #[.int .u8 f, BV b] (.bool sb)) (cIa : CK_ 53 #[.int .u8 f, BV a] (.bool true)) (cIb : CK_ 53 #[.int .u8 f, BV b] (.bool false)) (cZa : CK_ 84 #[.int .u8 f, BV a] (.bool false)) (cZb : CK_ 84 #[.int .u8 f, BV b] (.bool true)) (cN : CK_ 85 #[.int .u8 f] (BV z)) :
  CR_ 95 #[.int .u8 f, .int .u8 m, BV a, BV b] w (.tuple #[BV z, .int .u8 16, .int .i64 0]) := by
 have H := Own.start w
 go_enter Tryz.func95, Tryz.ntmps95
 exact walk1
theorem r12Mul_IF (f m a b z : Nat) (fl : Int) (sa sb na nb nq : Bool) (n1 d1 n2 d2 n3 d3 : ByteArray) (e1 e2 e3 er : Int) (w : World) (cT : ∀ w g, Blk 27 w g (cat2 (bc a) (bc b)) → CR_ 82 #[.int .u8 f, .int .u8 m, .slice (some ⟨g, 0, none⟩) 2 2] w (.bool true)) (cNa : CK_ 51 #[.int .u8 f, BV a] (.bool false)) (cNb : CK_ 51 #[.int .u8 f, BV b] (.bool false)) (cSa : CK_ 50 #[.int .u8 f, BV a] (.bool sa)) (cSb : CK_ 50 #[.int .u8 f, BV b] (.bool sb)) (cIa : CK_ 53 #[.int .u8 f, BV a] (.bool true)) (cIb : CK_ 53 #[.int .u8 f, BV b] (.bool false)) (cZa : CK_ 84 #[.int .u8 f, BV a] (.bool false)) (cZb : CK_ 84 #[.int .u8 f, BV b] (.bool false)) (cI : CK_ 86 #[.int .u8 f, .bool (!(sa == sb))] (BV z)) :
  CR_ 95 #[.int .u8 f, .int .u8 m, BV a, BV b] w (.tuple #[BV z, .int .u8 0, .int .i64 0]) := by
 have H := Own.start w
 go_enter Tryz.func95, Tryz.ntmps95
 exact walk1
theorem r12Mul_ZI (f m a b z : Nat) (fl : Int) (sa sb na nb nq : Bool) (n1 d1 n2 d2 n3 d3 : ByteArray) (e1 e2 e3 er : Int) (w : World) (cT : ∀ w g, Blk 27 w g (cat2 (bc a) (bc b)) → CR_ 82 #[.int .u8 f, .int .u8 m, .slice (some ⟨g, 0, none⟩) 2 2] w (.bool true)) (cNa : CK_ 51 #[.int .u8 f, BV a] (.bool false)) (cNb : CK_ 51 #[.int .u8 f, BV b] (.bool false)) (cSa : CK_ 50 #[.int .u8 f, BV a] (.bool sa)) (cSb : CK_ 50 #[.int .u8 f, BV b] (.bool sb)) (cIa : CK_ 53 #[.int .u8 f, BV a] (.bool false)) (cIb : CK_ 53 #[.int .u8 f, BV b] (.bool true)) (cZa : CK_ 84 #[.int .u8 f, BV a] (.bool true)) (cZb : CK_ 84 #[.int .u8 f, BV b] (.bool false)) (cN : CK_ 85 #[.int .u8 f] (BV z)) :
  CR_ 95 #[.int .u8 f, .int .u8 m, BV a, BV b] w (.tuple #[BV z, .int .u8 16, .int .i64 0]) := by
 have H := Own.start w
 go_enter Tryz.func95, Tryz.ntmps95
 exact walk1
theorem r12Mul_ZZ (f m a b z : Nat) (fl : Int) (sa sb na nb nq : Bool) (n1 d1 n2 d2 n3 d3 : ByteArray) (e1 e2 e3 er : Int) (w : World) (cT : ∀ w g, Blk 27 w g (cat2 (bc a) (bc b)) → CR_ 82 #[.int .u8 f, .int .u8 m, .slice (some ⟨g, 0, none⟩) 2 2] w (.bool true)) (cNa : CK_ 51 #[.int .u8 f, BV a] (.bool false)) (cNb : CK_ 51 #[.int .u8 f, BV b] (.bool false)) (cSa : CK_ 50 #[.int .u8 f, BV a] (.bool sa)) (cSb : CK_ 50 #[.int .u8 f, BV b] (.bool sb)) (cIa : CK_ 53 #[.int .u8 f, BV a] (.bool false)) (cIb : CK_ 53 #[.int .u8 f, BV b] (.bool false)) (cZa : CK_ 84 #[.int .u8 f, BV a] (.bool true)) (cZb : CK_ 84 #[.int .u8 f, BV b] (.bool true)) (cZ : CK_ 87 #[.int .u8 f, .bool (!(sa == sb))] (BV z)) :
  CR_ 95 #[.int .u8 f, .int .u8 m, BV a, BV b] w (.tuple #[BV z, .int .u8 0, .int .i64 0]) := by
 have H := Own.start w
 go_enter Tryz.func95, Tryz.ntmps95
 exact walk1
theorem r12Mul_ZF (f m a b z : Nat) (fl : Int) (sa sb na nb nq : Bool) (n1 d1 n2 d2 n3 d3 : ByteArray) (e1 e2 e3 er : Int) (w : World) (cT : ∀ w g, Blk 27 w g (cat2 (bc a) (bc b)) → CR_ 82 #[.int .u8 f, .int .u8 m, .slice (some ⟨g, 0, none⟩) 2 2] w (.bool true)) (cNa : CK_ 51 #[.int .u8 f, BV a] (.bool false)) (cNb : CK_ 51 #[.int .u8 f, BV b] (.bool false)) (cSa : CK_ 50 #[.int .u8 f, BV a] (.bool sa)) (cSb : CK_ 50 #[.int .u8 f, BV b] (.bool sb)) (cIa : CK_ 53 #[.int .u8 f, BV a] (.bool false)) (cIb : CK_ 53 #[.int .u8 f, BV b] (.bool false)) (cZa : CK_ 84 #[.int .u8 f, BV a] (.bool true)) (cZb : CK_ 84 #[.int .u8 f, BV b] (.bool false)) (cZ : CK_ 87 #[.int .u8 f, .bool (!(sa == sb))] (BV z)) :
  CR_ 95 #[.int .u8 f, .int .u8 m, BV a, BV b] w (.tuple #[BV z, .int .u8 0, .int .i64 0]) := by
 have H := Own.start w
 go_enter Tryz.func95, Tryz.ntmps95
 exact walk1
theorem r12Mul_FI (f m a b z : Nat) (fl : Int) (sa sb na nb nq : Bool) (n1 d1 n2 d2 n3 d3 : ByteArray) (e1 e2 e3 er : Int) (w : World) (cT : ∀ w g, Blk 27 w g (cat2 (bc a) (bc b)) → CR_ 82 #[.int .u8 f, .int .u8 m, .slice (some ⟨g, 0, none⟩) 2 2] w (.bool true)) (cNa : CK_ 51 #[.int .u8 f, BV a] (.bool false)) (cNb : CK_ 51 #[.int .u8 f, BV b] (.bool false)) (cSa : CK_ 50 #[.int .u8 f, BV a] (.bool sa)) (cSb : CK_ 50 #[.int .u8 f, BV b] (.bool sb)) (cIa : CK_ 53 #[.int .u8 f, BV a] (.bool false)) (cIb : CK_ 53 #[.int .u8 f, BV b] (.bool true)) (cZa : CK_ 84 #[.int .u8 f, BV a] (.bool false)) (cZb : CK_ 84 #[.int .u8 f, BV b] (.bool false)) (cI : CK_ 86 #[.int .u8 f, .bool (!(sa == sb))] (BV z)) :
  CR_ 95 #[.int .u8 f, .int .u8 m, BV a, BV b] w (.tuple #[BV z, .int .u8 0, .int .i64 0]) := by
 have H := Own.start w
 go_enter Tryz.func95, Tryz.ntmps95
 exact walk1
theorem r12Mul_FZ (f m a b z : Nat) (fl : Int) (sa sb na nb nq : Bool) (n1 d1 n2 d2 n3 d3 : ByteArray) (e1 e2 e3 er : Int) (w : World) (cT : ∀ w g, Blk 27 w g (cat2 (bc a) (bc b)) → CR_ 82 #[.int .u8 f, .int .u8 m, .slice (some ⟨g, 0, none⟩) 2 2] w (.bool true)) (cNa : CK_ 51 #[.int .u8 f, BV a] (.bool false)) (cNb : CK_ 51 #[.int .u8 f, BV b] (.bool false)) (cSa : CK_ 50 #[.int .u8 f, BV a] (.bool sa)) (cSb : CK_ 50 #[.int .u8 f, BV b] (.bool sb)) (cIa : CK_ 53 #[.int .u8 f, BV a] (.bool false)) (cIb : CK_ 53 #[.int .u8 f, BV b] (.bool false)) (cZa : CK_ 84 #[.int .u8 f, BV a] (.bool false)) (cZb : CK_ 84 #[.int .u8 f, BV b] (.bool true)) (cZ : CK_ 87 #[.int .u8 f, .bool (!(sa == sb))] (BV z)) :
  CR_ 95 #[.int .u8 f, .int .u8 m, BV a, BV b] w (.tuple #[BV z, .int .u8 0, .int .i64 0]) := by
 have H := Own.start w
 go_enter Tryz.func95, Tryz.ntmps95
 exact walk1
theorem r12Mul_FF (f m a b z : Nat) (fl : Int) (sa sb na nb nq : Bool) (n1 d1 n2 d2 n3 d3 : ByteArray) (e1 e2 e3 er : Int) (w : World) (cT : ∀ w g, Blk 27 w g (cat2 (bc a) (bc b)) → CR_ 82 #[.int .u8 f, .int .u8 m, .slice (some ⟨g, 0, none⟩) 2 2] w (.bool true)) (cNa : CK_ 51 #[.int .u8 f, BV a] (.bool false)) (cNb : CK_ 51 #[.int .u8 f, BV b] (.bool false)) (cSa : CK_ 50 #[.int .u8 f, BV a] (.bool sa)) (cSb : CK_ 50 #[.int .u8 f, BV b] (.bool sb)) (cIa : CK_ 53 #[.int .u8 f, BV a] (.bool false)) (cIb : CK_ 53 #[.int .u8 f, BV b] (.bool false)) (cZa : CK_ 84 #[.int .u8 f, BV a] (.bool false)) (cZb : CK_ 84 #[.int .u8 f, BV b] (.bool false)) (cVa : CK_ 88 #[.int .u8 f, BV a] (.tuple #[.agg (exC na n1 d1 e1), .int .i64 0])) (cVb : CK_ 88 #[.int .u8 f, BV b] (.tuple #[.agg (exC nb n2 d2 e2), .int .i64 0])) (cQ : CK_ 118 #[.agg (exC na n1 d1 e1), .agg (exC nb n2 d2 e2)] (.tuple #[.agg (exC nq n3 d3 e3), .int .i64 0])) (cR : CK_ 64 #[.int .u8 f, .int .u8 m, .agg (exC nq n3 d3 e3)] (.tuple #[BV z, .int .u8 fl, .int .i64 er])) :
  CR_ 95 #[.int .u8 f, .int .u8 m, BV a, BV b] w (.tuple #[BV z, .int .u8 fl, .int .i64 er]) := by
 have H := Own.start w
 go_enter Tryz.func95, Tryz.ntmps95
 exact walk1
theorem r12Mul_any (f m a b : Nat) (w : World) (ha : a < 2 ^ (64 * 2)) (hb : b < 2 ^ (64 * 2)) :
  CR_ 95 #[.int .u8 f, .int .u8 m, BV a, BV b] w (.tuple #[BV (mulN f m a b).1, .int .u8 ((mulN f m a b).2.1 : Nat), .int .i64 (mulN f m a b).2.2]) := by
 have cT := fun w g hB => r11Fits2_any f m a b w ha hb g hB
 cases ok : binOk f m a b
 case false =>
  rw [ok] at cT
  have e1 : mulN f m a b = (0, 0, 2) := by unfold mulN; rw [ok]; rfl
  rw [e1]
  exact r12Mul_no f m a b 0 0 false false false false false ⟨#[]⟩ ⟨#[]⟩ ⟨#[]⟩ ⟨#[]⟩ ⟨#[]⟩ ⟨#[]⟩ 0 0 0 0 w cT
 rw [ok] at cT
 have e1 : mulN f m a b = ((mulR f m a b).1, (mulR f m a b).2, 0) := by unfold mulN; rw [ok]; rfl
 rw [e1]
 have ok' := ok
 unfold binOk at ok'
 simp only [Bool.and_eq_true, decide_eq_true_iff] at ok'
 obtain ⟨⟨hf, hm⟩, fa, fb⟩ := ok'
 have cNa := fun w => r8IsNaN_any f a w hf ha
 have cNb := fun w => r8IsNaN_any f b w hf hb
 have cC := fun w g hB => r11Canon2 f (nanN f) a b (decide (clsN f a = 8)) (decide (clsN f b = 8)) w g hB (fun w => r7NaN_any f w hf) (fun w => r8IsSig_any f a w hf ha) (fun w => r8IsSig_any f b w hf hb)
 unfold mulR
 cases h1 : nanB (clsN f a)
 case true =>
  rw [h1] at cNa
  rw [Bool.true_or, if_pos rfl]
  unfold canonR
  refine (r12Mul_na f m a b _ _ false false false false false ⟨#[]⟩ ⟨#[]⟩ ⟨#[]⟩ ⟨#[]⟩ ⟨#[]⟩ ⟨#[]⟩ 0 0 0 0 w cT cNa cC).mono fun e w' h => ⟨h.1.trans ?_, h.2⟩
  cases decide (clsN f a = 8) <;> cases decide (clsN f b = 8) <;> rfl
 rw [h1] at cNa
 cases h2 : nanB (clsN f b)
 case true =>
  rw [h2] at cNb
  rw [Bool.or_true, if_pos rfl]
  unfold canonR
  refine (r12Mul_nb f m a b _ _ false false false false false ⟨#[]⟩ ⟨#[]⟩ ⟨#[]⟩ ⟨#[]⟩ ⟨#[]⟩ ⟨#[]⟩ 0 0 0 0 w cT cNa cNb cC).mono fun e w' h => ⟨h.1.trans ?_, h.2⟩
  cases decide (clsN f a = 8) <;> cases decide (clsN f b = 8) <;> rfl
 rw [h2] at cNb
 rw [Bool.or_self, if_neg (by decide)]
 have n8a : ¬ 8 ≤ clsN f a := by unfold nanB at h1; simpa using h1
 have n8b : ¬ 8 ≤ clsN f b := by unfold nanB at h2; simpa using h2
 rw [below_neg f a n8a, below_neg f b n8b]
 have cSa := fun w => r8Sign_any f a w ha
 have cSb := fun w => r8Sign_any f b w hb
 simp only [fa, fb, Bool.true_and] at cSa cSb
 have cIa := fun w => r8IsInf_nt f a w hf ha
 have cIb := fun w => r8IsInf_nt f b w hf hb
 have cZa := fun w => r8IsZero_nt f a w hf ha
 have cZb := fun w => r8IsZero_nt f b w hf hb
 have cN := fun w => r7NaN_any f w hf
 have cI := fun w => r7Inf_any f (!(negN f a == negN f b)) w hf
 have cZ := fun w => r7Zero_any f (!(negN f a == negN f b)) w hf
 have iz1 := inf_zer (clsN f a)
 have iz2 := inf_zer (clsN f b)
 cases i1 : infB (clsN f a) <;> cases z1 : zerB (clsN f a) <;> cases i2 : infB (clsN f b) <;> cases z2 : zerB (clsN f b) <;> rw [i1, z1] at iz1 <;> rw [i2, z2] at iz2 <;> simp only [Bool.and_true, Bool.true_and, Bool.and_false, Bool.false_and, Bool.or_true, Bool.true_or, Bool.or_false, Bool.false_or, Bool.and_self, Bool.or_self, if_true, Bool.false_eq_true, if_false] <;> rw [i1] at cIa <;> rw [z1] at cZa <;> rw [i2] at cIb <;> rw [z2] at cZb
 ·have na := sig_ne f a fa h1 i1 z1
  have nz := sig_ne f b fb h2 i2 z2
  have cVa := fun w => r8ValueF_any f a w fa h1 i1 na
  have cVb := fun w => r8ValueF_any f b w fb h2 i2 nz
  obtain ⟨v1, v2, v3, v4⟩ := oneB f a fa na
  obtain ⟨u1, u2, u3, u4⟩ := oneB f b fb nz
  have cQ := fun w => r6Mul_any (negN f a) (negN f b) (sO f a) 1 (sO f b) 1 (xO f a) (xO f b) w v1 u1 (by decide) (by decide) (by omega) (by omega) (by decide) (by decide) (by omega) (by omega) (by omega) (by omega)
  have hne := Nat.mul_ne_zero v1 u1
  have hlm := mul_len (sO f a) (sO f b) 113 113 v3 u3
  have hO := oneF (sO f a * sO f b) (1 * 1) (xO f a + xO f b) hne (by decide) (by omega) (by decide) (by omega) (by omega)
  have cR := fun w => r9Round_any f m (!(negN f a == negN f b)) _ _ _ w hf hm hO
  rw [rnd_same f m _ _ _ _ hne (by decide), mul_rnd f m _ a b na nz] at cR
  have key := rnd_whole f m (negN f a != negN f b) (sigN f a * sigN f b) (xpN f a + xpN f b) hf (Nat.mul_ne_zero na nz)
  rw [key]
  have hng : negX' (!(negN f a == negN f b)) (sO f a * sO f b) = (!(negN f a == negN f b)) := by unfold negX'; rw [if_neg hne]
  rw [hng] at cQ
  exact r12Mul_FF f m a b _ _ _ _ _ _ _ _ _ _ _ _ _ _ _ _ _ w cT cNa cNb cSa cSb cIa cIb cZa cZb cVa cVb cQ cR
 ·exact r12Mul_FZ f m a b _ 0 _ _ false false false ⟨#[]⟩ ⟨#[]⟩ ⟨#[]⟩ ⟨#[]⟩ ⟨#[]⟩ ⟨#[]⟩ 0 0 0 0 w cT cNa cNb cSa cSb cIa cIb cZa cZb cZ
 ·exact r12Mul_FI f m a b _ 0 _ _ false false false ⟨#[]⟩ ⟨#[]⟩ ⟨#[]⟩ ⟨#[]⟩ ⟨#[]⟩ ⟨#[]⟩ 0 0 0 0 w cT cNa cNb cSa cSb cIa cIb cZa cZb cI
 ·exact absurd iz2 (by decide)
 ·exact r12Mul_ZF f m a b _ 0 _ _ false false false ⟨#[]⟩ ⟨#[]⟩ ⟨#[]⟩ ⟨#[]⟩ ⟨#[]⟩ ⟨#[]⟩ 0 0 0 0 w cT cNa cNb cSa cSb cIa cIb cZa cZb cZ
 ·exact r12Mul_ZZ f m a b _ 0 _ _ false false false ⟨#[]⟩ ⟨#[]⟩ ⟨#[]⟩ ⟨#[]⟩ ⟨#[]⟩ ⟨#[]⟩ 0 0 0 0 w cT cNa cNb cSa cSb cIa cIb cZa cZb cZ
 ·exact r12Mul_ZI f m a b _ 0 _ _ false false false ⟨#[]⟩ ⟨#[]⟩ ⟨#[]⟩ ⟨#[]⟩ ⟨#[]⟩ ⟨#[]⟩ 0 0 0 0 w cT cNa cNb cSa cSb cIa cIb cZa cZb cN
 ·exact absurd iz2 (by decide)
 ·exact r12Mul_IF f m a b _ 0 _ _ false false false ⟨#[]⟩ ⟨#[]⟩ ⟨#[]⟩ ⟨#[]⟩ ⟨#[]⟩ ⟨#[]⟩ 0 0 0 0 w cT cNa cNb cSa cSb cIa cIb cZa cZb cI
 ·exact r12Mul_IZ f m a b _ 0 _ _ false false false ⟨#[]⟩ ⟨#[]⟩ ⟨#[]⟩ ⟨#[]⟩ ⟨#[]⟩ ⟨#[]⟩ 0 0 0 0 w cT cNa cNb cSa cSb cIa cIb cZa cZb cN
 ·exact r12Mul_II f m a b _ 0 _ _ false false false ⟨#[]⟩ ⟨#[]⟩ ⟨#[]⟩ ⟨#[]⟩ ⟨#[]⟩ ⟨#[]⟩ 0 0 0 0 w cT cNa cNb cSa cSb cIa cIb cZa cZb cI
 ·exact absurd iz2 (by decide)
 ·exact absurd iz1 (by decide)
 ·exact absurd iz1 (by decide)
 ·exact absurd iz1 (by decide)
 ·exact absurd iz1 (by decide)
open Go.RowKit
theorem mulProd_any (f m : Nat) (l : List Nat) (v : Value) (w : World) (hf : f < 256) (hm : m < 256) (hl : ∀ b ∈ l, b < 2 ^ (64 * 2)) (h60 : l.length ≤ 60) (hS : Sl w v l) (hT : Tab w) :
  CR_ 24 #[.int .u8 f, .int .u8 m, v] w (tellS (sumV (mulN f m) (oneN f false) f m l)) := by
 obtain ⟨-, -, cO⟩ := mulOpen0_any f m hf hm
 have c1 := fun w => shapeOne_any f false w hf
 cases ho : (decide (m < 5) && decide (f < 4))
 ·rw [ho] at cO
  rw [sumV_bad _ _ _ _ _ ho]
  rcases hS with ⟨sa, c, rfl, -, -⟩ | ⟨g, o, n, c, rfl, -, -, -, -⟩
  ·exact mulProd_bad f m 0 c sa w hT cO
  ·exact mulProd_bad f m n c _ w hT cO
 ·rw [ho] at cO
  rcases hS with ⟨sa, c, rfl, rfl, -⟩ | ⟨g, o, n, c, rfl, h0, hnc, hn, hB⟩
  ·rw [sumV_nil _ _ _ _ ho]
   exact mulProd_nil f m c sa w hT cO _ c1
  ·rw [sumV_some _ _ _ _ _ ho (ne_nil l n hn h0)]
   have := mulProd_some (mulN f m) f m l g o n c w hT hB (Lib.hid hl) (Lib.hid hn) (by omega) hnc cO (fun b w hb => shapeFits_any f b w hb) (fun a b w ha hb hT => mulMul_any f m a b w hf hm ha hb hT) _ c1
   rw [if_neg (ne_nil l n hn h0)] at this
   exact this
theorem r12Prod_any (f m : Nat) (l : List Nat) (v : Value) (w : World) (hl : ∀ b ∈ l, b < 2 ^ (64 * 2)) (h60 : l.length ≤ 60) (hS : Sl w v l) :
  CR_ 25 #[.int .u8 f, .int .u8 m, v] w (tellS (sumV (mulN f m) (oneN f false) f m l)) := by
 cases ho : (decide (m < 5) && decide (f < 4))
 ·rw [sumV_bad _ _ _ _ _ ho]
  rw [Bool.and_comm] at ho
  rcases hS with ⟨sa, c, rfl, rfl, -⟩ | ⟨g, o, n, c, rfl, h0, hnc, hn, hB⟩
  ·have cL := fun (w' : World) (_ : Below w.heap.size w w') => r11FitsL_nil f m c sa w'
   rw [ho] at cL
   exact r12Prod_no f m 0 c sa w cL
  ·have cL := fun (w' : World) (hb : Below w.heap.size w w') => r11FitsL_some f m l g o n c w' (hB.below hb hB.lt) (Lib.hid hl) (Lib.hid hn) (by omega)
   rw [ho, Bool.false_and] at cL
   exact r12Prod_no f m n c _ w cL
 ·rcases hS with ⟨sa, c, rfl, rfl, -⟩ | ⟨g, o, n, c, rfl, h0, hnc, hn, hB⟩
  ·rw [sumV_nil _ _ _ _ ho]
   rw [Bool.and_comm] at ho
   have cL := fun (w' : World) (_ : Below w.heap.size w w') => r11FitsL_nil f m c sa w'
   rw [ho] at cL
   have hf4 : f < 4 := by simp only [Bool.and_eq_true, decide_eq_true_iff] at ho; exact ho.1
   exact r12Prod_nil f m c _ sa w cL (fun w => r7One_any f false w hf4)
  ·rw [sumV_some _ _ _ _ _ ho (ne_nil l n hn h0)]
   rw [Bool.and_comm] at ho
   have cL := fun (w' : World) (hb : Below w.heap.size w w') => r11FitsL_some f m l g o n c w' (hB.below hb hB.lt) (Lib.hid hl) (Lib.hid hn) (by omega)
   rw [ho, Bool.true_and] at cL
   cases ha : allB f l
   ·rw [ha] at cL
    exact r12Prod_no f m n c _ w cL
   ·rw [ha] at cL
    exact r12Prod_some (mulN f m) f m l g o n c w hB (Lib.hid hl) (Lib.hid hn) (by omega) h0 cL (fun a b w ha hb => r12Mul_any f m a b w ha hb)
theorem mulLists_long (f m n c : Nat) (sa : Option Addr) (w0 : World) (hT : Tab w0) (hd : decide ((60 : Int) < (n : Int)) = true) (cV : CT_ 23 #[] (.bool true))  :
  CR_ 6 #[.int .u8 f, .int .u8 m, .slice sa n c] w0 (.bool true) := by
 have H := Own.start w0
 have HT := Lib.hid hT
 clear hT
 go_enter Tryz.func6, Tryz.ntmps6
 exact walk3
theorem mulLists_nil (f m c x : Nat) (fl e0 : Int) (sa : Option Addr) (w0 : World) (hT : Tab w0) (h0 : sa = none → c = 0) (cV : CT_ 23 #[] (.bool true)) (cA : CT_ 24 #[.int .u8 f, .int .u8 m, .slice none 0 0] (.tuple #[BV x, .int .u8 fl, .int .i64 e0])) (cR : CK_ 25 #[.int .u8 f, .int .u8 m, .slice sa 0 c] (.tuple #[BV x, .int .u8 fl, .int .i64 e0])) :
  CR_ 6 #[.int .u8 f, .int .u8 m, .slice sa 0 c] w0 (.bool true) := by
 have H := Own.start w0
 have HT := Lib.hid hT
 clear hT
 go_enter Tryz.func6, Tryz.ntmps6
 go_wp2_with (first
  | ((with_reducible refine g15_ rfl rfl ?_); refine H.xa ?_; (intro gx w H; simp only [Act.put, q1_, q2_, q3_]))
  | ((with_reducible refine g16_ rfl rfl ?_); refine H.xa ?_; (intro gy w H; simp only [Act.put, q1_, q2_, q3_]))
  | ((with_reducible refine g0_ rfl ?_); refine H.xb ?_; (intro g w H; simp only [Act.put, q1_, q2_, q3_]))
  | ((with_reducible refine g1_ rfl ?_); refine H.xa ?_; (intro g w H; simp only [Act.put, q1_, q2_, q3_]))
  | ((with_reducible refine g2_ rfl ?_); (first | refine H.xl ?_ | refine H.xm ?_); simp only [Act.put, q1_, q2_, q3_])
  | ((with_reducible refine g3_ rfl ?_); (first | refine H.xs ?_ | refine H.xt ?_); (intro w H; simp only [Act.put]))
  | ((with_reducible show wpList _ _ _ (⟨_, .call _, _, _, _, _⟩ :: _) _ _); refine app_empty rfl rfl rfl rfl h0 ?_; intro w1 bel; have BEL := H.below.trans (bel.mono H.below.size); have HT1 := Lib.hid (HT.out.below BEL); clear H; have H := Own.start w1; clear bel; simp only [Act.put, q1_, q2_, q3_])
  | (go_at_call 24; (with_reducible refine H.kc (cA _ (HT1.out.below H.below)) ?_; clear H; intro w H))
  | (go_at_call 25; (with_reducible refine H.kc (cR _) ?_; clear H; intro w H))
  | (go_at_call 23; (with_reducible refine H.kc (cV _ (HT1.out.below H.below)) ?_; clear H; intro w H))
  )
 go_loopw [14] (fun i wr => i = .int .i64 0 ∧ Own w1 wr [(gy, 27, bc x), (gx, 27, bc x)]) (fun i _ => 1)
 case atStart => exact ⟨rfl, H⟩
 case round =>
  clear H
  obtain ⟨rfl, H⟩ := hrel
  go_wp2_with (first
  | ((with_reducible refine g15_ rfl rfl ?_); refine H.xa ?_; (intro gx w H; simp only [Act.put, q1_, q2_, q3_]))
  | ((with_reducible refine g16_ rfl rfl ?_); refine H.xa ?_; (intro gy w H; simp only [Act.put, q1_, q2_, q3_]))
  | ((with_reducible refine g0_ rfl ?_); refine H.xb ?_; (intro g w H; simp only [Act.put, q1_, q2_, q3_]))
  | ((with_reducible refine g1_ rfl ?_); refine H.xa ?_; (intro g w H; simp only [Act.put, q1_, q2_, q3_]))
  | ((with_reducible refine g2_ rfl ?_); (first | refine H.xl ?_ | refine H.xm ?_); simp only [Act.put, q1_, q2_, q3_])
  | ((with_reducible refine g3_ rfl ?_); (first | refine H.xs ?_ | refine H.xt ?_); (intro w H; simp only [Act.put]))
  | ((with_reducible show wpList _ _ _ (⟨_, .call _, _, _, _, _⟩ :: _) _ _); refine app_empty rfl rfl rfl rfl h0 ?_; intro w1 bel; have BEL := H.below.trans (bel.mono H.below.size); have HT1 := Lib.hid (HT.out.below BEL); clear H; have H := Own.start w1; clear bel; simp only [Act.put, q1_, q2_, q3_])
  | (go_at_call 24; (with_reducible refine H.kc (cA _ (HT1.out.below H.below)) ?_; clear H; intro w H))
  | (go_at_call 25; (with_reducible refine H.kc (cR _) ?_; clear H; intro w H))
  | (go_at_call 23; (with_reducible refine H.kc (cV _ (HT1.out.below H.below)) ?_; clear H; intro w H))
  )
  all_goals
   go_ret
   exact ⟨by simp, BEL.trans (H.below.mono BEL.size)⟩
theorem mulLists_some (f m : Nat) (l : List Nat) (g o n c x : Nat) (fl e0 : Int) (w0 : World) (hT : Tab w0) (hB : Bls w0 g o l) (hn : Hid (l.length = n)) (h0 : 0 < n) (hsm : n ≤ 60) (cV : CT_ 23 #[] (.bool true)) (cA : ∀ w g' c', Tab w → Bls w g' 0 l → n ≤ c' → CR_ 24 #[.int .u8 f, .int .u8 m, .slice (some ⟨g', 0, none⟩) n c'] w (.tuple #[BV x, .int .u8 fl, .int .i64 e0])) (cR : ∀ w, Bls w g o l → CR_ 25 #[.int .u8 f, .int .u8 m, .slice (some ⟨g, o, none⟩) n c] w (.tuple #[BV x, .int .u8 fl, .int .i64 e0])) :
  CR_ 6 #[.int .u8 f, .int .u8 m, .slice (some ⟨g, o, none⟩) n c] w0 (.bool true) := by
 have H := Own.start w0
 have HT := Lib.hid hT
 clear hT
 go_enter Tryz.func6, Tryz.ntmps6
 go_wp2_with (first
  | ((with_reducible refine g15_ rfl rfl ?_); refine H.xa ?_; (intro gx w H; simp only [Act.put, q1_, q2_, q3_]))
  | ((with_reducible refine g16_ rfl rfl ?_); refine H.xa ?_; (intro gy w H; simp only [Act.put, q1_, q2_, q3_]))
  | ((with_reducible refine g0_ rfl ?_); refine H.xb ?_; (intro g w H; simp only [Act.put, q1_, q2_, q3_]))
  | ((with_reducible refine g1_ rfl ?_); refine H.xa ?_; (intro g w H; simp only [Act.put, q1_, q2_, q3_]))
  | ((with_reducible refine g2_ rfl ?_); (first | refine H.xl ?_ | refine H.xm ?_); simp only [Act.put, q1_, q2_, q3_])
  | ((with_reducible refine g3_ rfl ?_); (first | refine H.xs ?_ | refine H.xt ?_); (intro w H; simp only [Act.put]))
  | ((with_reducible show wpList _ _ _ (⟨_, .call _, _, _, _, _⟩ :: _) _ _); refine app_bits rfl rfl rfl rfl h0 hsm hn.out (hB.below H.below hB.lt) ?_; intro gk ck w1 bel hK hB1 hc1; have BEL := H.below.trans (bel.mono H.below.size); have HT1 := Lib.hid (HT.out.below BEL); clear H; have H := Own.start w1; clear bel; simp only [Act.put, q1_, q2_, q3_])
  | ((with_reducible show Code.wp _ (.region 9 _ true) _ _ _); refine H.heldSub rfl (List.Sublist.refl _) ?_; intro H; refine H.zr 0 ?_; (try simp only [Act.put, q1_, q2_, q3_]); (try simp only [q4_, q5_, q6_]); refine H.zr 1 ?_; (try simp only [Act.put, q1_, q2_, q3_]); (try simp only [q4_, q5_, q6_]); refine H.zr 2 ?_ (hv := by intro w; go_simp; first | with_reducible rfl | (rw [if_pos (by omega)])); (try simp only [Act.put, q1_, q2_, q3_]); (try simp only [q4_, q5_, q6_]); refine H.zle 3 hK hb ?_; (try simp only [Act.put, q1_, q2_, q3_]); (try simp only [q4_, q5_, q6_]); refine H.zr 4 ?_; (try simp only [Act.put, q1_, q2_, q3_]); (try simp only [q4_, q5_, q6_]); refine H.zr 5 ?_; (try simp only [Act.put, q1_, q2_, q3_]); (try simp only [q4_, q5_, q6_]); refine H.zr 6 ?_ (hv := by intro w; go_simp; first | with_reducible rfl | (rw [if_pos (by omega)])); (try simp only [Act.put, q1_, q2_, q3_]); (try simp only [q4_, q5_, q6_]); refine H.zle 7 hB1 hb ?_; (try simp only [Act.put, q1_, q2_, q3_]); (try simp only [q4_, q5_, q6_]); refine H.zr 8 ?_; (try simp only [Act.put, q1_, q2_, q3_]); (try simp only [q4_, q5_, q6_]); refine wpAnyH_done (by kernel_rfl) ?_ _)
  | (go_at_call 24; (with_reducible refine H.kc (cA _ _ _ (HT1.out.below H.below) (hK.below H.below hK.lt) hc1) ?_; clear H; intro w H))
  | (go_at_call 25; (with_reducible refine H.kc (cR _ (hB1.below H.below hB1.lt)) ?_; clear H; intro w H))
  | (go_at_call 23; (with_reducible refine H.kc (cV _ (HT1.out.below H.below)) ?_; clear H; intro w H))
  )
 go_loopw [14] (fun i wr => ∃ k : Nat, k ≤ n ∧ i = .int .i64 k ∧ Own w1 wr [(gy, 27, bc x), (gx, 27, bc x)]) (fun i _ => n + 1 - (intOf i).toNat)
 case atStart => exact ⟨0, by omega, rfl, H⟩
 case round =>
  clear H
  obtain ⟨k, hk, rfl, H⟩ := hrel
  by_cases hlt : k < n
  ·obtain ⟨b, hb⟩ : ∃ b, l[k]? = some b := ⟨_, List.getElem?_eq_getElem (by rw [hn.out]; exact hlt)⟩
   have hd : decide ((k : Int) < (n : Int)) = true := by simp; omega
   go_wp2_with (first
  | ((with_reducible refine g15_ rfl rfl ?_); refine H.xa ?_; (intro gx w H; simp only [Act.put, q1_, q2_, q3_]))
  | ((with_reducible refine g16_ rfl rfl ?_); refine H.xa ?_; (intro gy w H; simp only [Act.put, q1_, q2_, q3_]))
  | ((with_reducible refine g0_ rfl ?_); refine H.xb ?_; (intro g w H; simp only [Act.put, q1_, q2_, q3_]))
  | ((with_reducible refine g1_ rfl ?_); refine H.xa ?_; (intro g w H; simp only [Act.put, q1_, q2_, q3_]))
  | ((with_reducible refine g2_ rfl ?_); (first | refine H.xl ?_ | refine H.xm ?_); simp only [Act.put, q1_, q2_, q3_])
  | ((with_reducible refine g3_ rfl ?_); (first | refine H.xs ?_ | refine H.xt ?_); (intro w H; simp only [Act.put]))
  | ((with_reducible show wpList _ _ _ (⟨_, .call _, _, _, _, _⟩ :: _) _ _); refine app_bits rfl rfl rfl rfl h0 hsm hn.out (hB.below H.below hB.lt) ?_; intro gk ck w1 bel hK hB1 hc1; have BEL := H.below.trans (bel.mono H.below.size); have HT1 := Lib.hid (HT.out.below BEL); clear H; have H := Own.start w1; clear bel; simp only [Act.put, q1_, q2_, q3_])
  | ((with_reducible show Code.wp _ (.region 9 _ true) _ _ _); refine H.heldSub rfl (List.Sublist.refl _) ?_; intro H; refine H.zr 0 ?_; (try simp only [Act.put, q1_, q2_, q3_]); (try simp only [q4_, q5_, q6_]); refine H.zr 1 ?_; (try simp only [Act.put, q1_, q2_, q3_]); (try simp only [q4_, q5_, q6_]); refine H.zr 2 ?_ (hv := by intro w; go_simp; first | with_reducible rfl | (rw [if_pos (by omega)])); (try simp only [Act.put, q1_, q2_, q3_]); (try simp only [q4_, q5_, q6_]); refine H.zle 3 hK hb ?_; (try simp only [Act.put, q1_, q2_, q3_]); (try simp only [q4_, q5_, q6_]); refine H.zr 4 ?_; (try simp only [Act.put, q1_, q2_, q3_]); (try simp only [q4_, q5_, q6_]); refine H.zr 5 ?_; (try simp only [Act.put, q1_, q2_, q3_]); (try simp only [q4_, q5_, q6_]); refine H.zr 6 ?_ (hv := by intro w; go_simp; first | with_reducible rfl | (rw [if_pos (by omega)])); (try simp only [Act.put, q1_, q2_, q3_]); (try simp only [q4_, q5_, q6_]); refine H.zle 7 hB1 hb ?_; (try simp only [Act.put, q1_, q2_, q3_]); (try simp only [q4_, q5_, q6_]); refine H.zr 8 ?_; (try simp only [Act.put, q1_, q2_, q3_]); (try simp only [q4_, q5_, q6_]); refine wpAnyH_done (by kernel_rfl) ?_ _)
  | (go_at_call 24; (with_reducible refine H.kc (cA _ _ _ (HT1.out.below H.below) (hK.below H.below hK.lt) hc1) ?_; clear H; intro w H))
  | (go_at_call 25; (with_reducible refine H.kc (cR _ (hB1.below H.below hB1.lt)) ?_; clear H; intro w H))
  | (go_at_call 23; (with_reducible refine H.kc (cV _ (HT1.out.below H.below)) ?_; clear H; intro w H))
  )
   all_goals
    go_roundw
    case rel => exact ⟨k + 1, by omega, by go_num, H⟩
    case measure => first | (simp [intOf]; omega) | simp [intOf]
  ·obtain rfl : k = n := by omega
   have hd : decide ((k : Int) < (k : Int)) = false := by simp
   go_wp2_with (first
  | ((with_reducible refine g15_ rfl rfl ?_); refine H.xa ?_; (intro gx w H; simp only [Act.put, q1_, q2_, q3_]))
  | ((with_reducible refine g16_ rfl rfl ?_); refine H.xa ?_; (intro gy w H; simp only [Act.put, q1_, q2_, q3_]))
  | ((with_reducible refine g0_ rfl ?_); refine H.xb ?_; (intro g w H; simp only [Act.put, q1_, q2_, q3_]))
  | ((with_reducible refine g1_ rfl ?_); refine H.xa ?_; (intro g w H; simp only [Act.put, q1_, q2_, q3_]))
  | ((with_reducible refine g2_ rfl ?_); (first | refine H.xl ?_ | refine H.xm ?_); simp only [Act.put, q1_, q2_, q3_])
  | ((with_reducible refine g3_ rfl ?_); (first | refine H.xs ?_ | refine H.xt ?_); (intro w H; simp only [Act.put]))
  | ((with_reducible show wpList _ _ _ (⟨_, .call _, _, _, _, _⟩ :: _) _ _); refine app_bits rfl rfl rfl rfl h0 hsm hn.out (hB.below H.below hB.lt) ?_; intro gk ck w1 bel hK hB1 hc1; have BEL := H.below.trans (bel.mono H.below.size); have HT1 := Lib.hid (HT.out.below BEL); clear H; have H := Own.start w1; clear bel; simp only [Act.put, q1_, q2_, q3_])
  | ((with_reducible show Code.wp _ (.region 9 _ true) _ _ _); refine H.heldSub rfl (List.Sublist.refl _) ?_; intro H; refine H.zr 0 ?_; (try simp only [Act.put, q1_, q2_, q3_]); (try simp only [q4_, q5_, q6_]); refine H.zr 1 ?_; (try simp only [Act.put, q1_, q2_, q3_]); (try simp only [q4_, q5_, q6_]); refine H.zr 2 ?_ (hv := by intro w; go_simp; first | with_reducible rfl | (rw [if_pos (by omega)])); (try simp only [Act.put, q1_, q2_, q3_]); (try simp only [q4_, q5_, q6_]); refine H.zle 3 hK hb ?_; (try simp only [Act.put, q1_, q2_, q3_]); (try simp only [q4_, q5_, q6_]); refine H.zr 4 ?_; (try simp only [Act.put, q1_, q2_, q3_]); (try simp only [q4_, q5_, q6_]); refine H.zr 5 ?_; (try simp only [Act.put, q1_, q2_, q3_]); (try simp only [q4_, q5_, q6_]); refine H.zr 6 ?_ (hv := by intro w; go_simp; first | with_reducible rfl | (rw [if_pos (by omega)])); (try simp only [Act.put, q1_, q2_, q3_]); (try simp only [q4_, q5_, q6_]); refine H.zle 7 hB1 hb ?_; (try simp only [Act.put, q1_, q2_, q3_]); (try simp only [q4_, q5_, q6_]); refine H.zr 8 ?_; (try simp only [Act.put, q1_, q2_, q3_]); (try simp only [q4_, q5_, q6_]); refine wpAnyH_done (by kernel_rfl) ?_ _)
  | (go_at_call 24; (with_reducible refine H.kc (cA _ _ _ (HT1.out.below H.below) (hK.below H.below hK.lt) hc1) ?_; clear H; intro w H))
  | (go_at_call 25; (with_reducible refine H.kc (cR _ (hB1.below H.below hB1.lt)) ?_; clear H; intro w H))
  | (go_at_call 23; (with_reducible refine H.kc (cV _ (HT1.out.below H.below)) ?_; clear H; intro w H))
  )
   all_goals
    go_ret
    exact ⟨by simp, BEL.trans (H.below.mono BEL.size)⟩
theorem mulLists_alive (w : World) (hT : Tab w) (cA : CT_ 90 #[.int .u8 2, .int .u8 0, .agg #[.int .u64 0, .int .u64 16384], .agg #[.int .u64 0, .int .u64 16896]] (.tuple #[.agg #[.int .u64 0, .int .u64 17920], .int .u8 0, .int .i64 0])) :
  CR_ 23 #[] w (.bool true) := by
 have H := Own.start w
 have HT := Lib.hid hT
 clear hT
 go_enter Tryz.func23, Tryz.ntmps23
 exact walk4
theorem mulLists_alive_any (w : World) (hT : Tab w) : CR_ 23 #[] w (.bool true) := by
 refine mulLists_alive w hT fun w hT => ?_
 have := mulMul_any 2 0 16384 16896 w (by decide) (by decide) (by decide) (by decide) hT
 rw [show mulN 2 0 16384 16896 = (17920, 0, 0) by decide +kernel] at this
 exact this
theorem mulLists_any (f m : Nat) (l : List Nat) (v : Value) (w : World) (hf : f < 256) (hm : m < 256) (hl : ∀ b ∈ l, b < 2 ^ (64 * 2)) (hS : Sl w v l) (hT : Tab w) :
  CR_ 6 #[.int .u8 f, .int .u8 m, v] w (.bool true) := by
 have cV := fun w hT => mulLists_alive_any w hT
 rcases hS with ⟨sa, c, rfl, rfl, h0⟩ | ⟨g, o, n, c, rfl, h0, hnc, hn, hB⟩
 ·exact mulLists_nil f m c _ _ _ sa w hT h0 cV (fun w hT => mulProd_any f m [] _ w hf hm hl (by decide) (Or.inl ⟨none, 0, rfl, rfl, fun _ => rfl⟩) hT) (fun w => r12Prod_any f m [] _ w hl (by decide) (Or.inl ⟨sa, c, rfl, rfl, h0⟩))
 ·by_cases h60 : n ≤ 60
  ·exact mulLists_some f m l g o n c _ _ _ w hT hB (Lib.hid hn) h0 h60 cV (fun w g' c' hT hK hc => mulProd_any f m l _ w hf hm hl (by omega) (Or.inr ⟨g', 0, n, c', rfl, h0, hc, hn, hK⟩) hT) (fun w hB => r12Prod_any f m l _ w hl (by omega) (Or.inr ⟨g, o, n, c, rfl, h0, hnc, hn, hB⟩))
  ·exact mulLists_long f m n c _ w hT (by simp; omega) cV
open Go.ChangeShapes Go.WideShapes Go.ChangeAt Go.RowKit
theorem own : ownKnob Tryz.prog.godebug = none := by kernel_rfl
theorem laidOut : laidOutB Tryz.prog = true := by kernel_rfl
def laidL : List (String × DataW Unit) := [("math/bits.deBruijn64tab", Rows.laid_math_bits_deBruijn64tab)]
theorem gTab : Tryz.prog.globalNamed "math/bits.deBruijn64tab" = some 0 := by kernel_rfl
theorem tTab : (Tryz.prog.globals[0]?).map (·.type) = some 208 := by kernel_rfl
theorem ren1 : Tryz.lays29_ren.g 1 = 0 := rfl
theorem door_met (os : Os) (args : Array Value) : laidMetH Tryz.prog laidL ((World.doorLaid Tryz.prog 400 os).forCall (fun _ _ => 0) ⟨#[], args, []⟩).memory :=
 laidMetH_of_parts3 (fuel := 8) (laidMet_of_run' 8 (by kernel_rfl) (by kernel_rfl)) (by kernel_rfl) (by kernel_rfl)
theorem datum_map {H : Type} : (Rows.laid_math_bits_deBruijn64tab : DataW H) = .agg (Lib.deBruijn64tab.map fun x => .lit (.int .u8 (x : Nat))) := rfl
theorem tab_len : Lib.deBruijn64tab.length = 64 := by decide
theorem tab_of_laid {W : World} (h : laidMetH Tryz.prog laidL W) : Tab W := by
 rw [MakeChecks.laidMetH_plain _ _ _ (by kernel_rfl)] at h
 obtain ⟨ps, ⟨g0, t0, cs0, f0, p0, q0, hg0, ht0, hv0, hd0, _, _⟩, _, _⟩ := h
 obtain rfl := Option.some.inj (gTab.symm.trans hg0)
 obtain rfl := Option.some.inj (tTab.symm.trans ht0)
 obtain ⟨xs, m1, rfl, hx1, hlen, hn, hel⟩ := DataW.trod_array Tryz.underlying208 hd0
 have c1 : Tryz.prog.cellsOf 5 = 1 := by kernel_rfl
 rw [c1] at hel
 simp only [Prod.mk.injEq, datum_map, DataW.agg.injEq] at hx1
 intro j hj
 rw [ren1]
 have hj64 : j < 64 := by rw [tab_len] at hj; exact hj
 have hcell := World.var?_cell hg0 hv0 j
 rw [hcell]
 have h1 := hel j hj64
 have hxj : xs[j]? = some xs[j] := List.getElem?_eq_getElem (by omega)
 rw [hxj, Nat.mul_one] at h1
 obtain ⟨n, e1, e2, _⟩ := DataW.trod_int Tryz.underlying5 h1
 have hm : (xs.map (·.1))[j]? = some (.lit (.int .u8 n)) := by rw [List.getElem?_map, hxj, e2]; rfl
 rw [← hx1.1, List.getElem?_map, List.getElem?_eq_getElem hj] at hm
 simp only [Option.map_some, Option.some.injEq, DataW.lit.injEq, Lit.int.injEq, true_and] at hm
 have hget : cs0[j]? = some (.int .u8 n) := by
  have h2 : ((cs0.toList.drop j).take 1)[0]? = some (.int .u8 n) := by rw [e1]; rfl
  rw [List.getElem?_take_of_lt (by decide), List.getElem?_drop, Nat.add_zero, Array.getElem?_toList] at h2
  exact h2
 rw [hget, ← hm, List.getD_eq_getElem?_getD, List.getElem?_eq_getElem hj]; rfl
theorem two_words (x y : Nat) (hx : x < 18446744073709551616) (hy : y < 18446744073709551616) : ∃ b : Nat, Value.agg #[.int .u64 (x : Nat), .int .u64 (y : Nat)] = BV b ∧ b < 2 ^ (64 * 2) := by
 refine ⟨x * 18446744073709551616 + y, ?_, by omega⟩
 have h1 : limb (x * 18446744073709551616 + y) 1 = (x : Nat) := by
  show ((limbN (x * 18446744073709551616 + y) 1 : Nat) : Int) = x
  unfold limbN; rw [show 2 ^ (64 * 1) = 18446744073709551616 from rfl]; omega
 have h0 : limb (x * 18446744073709551616 + y) 0 = (y : Nat) := by
  show ((limbN (x * 18446744073709551616 + y) 0 : Nat) : Int) = y
  unfold limbN; rw [show 2 ^ (64 * 0) = 1 from rfl]; omega
 show Value.agg #[_, _] = .agg #[.int .u64 (limb _ 1), .int .u64 (limb _ 0)]
 rw [h1, h0]
theorem bits_cells : Tryz.prog.cellsOf 27 = 2 := by kernel_rfl
theorem nat_u8 {x : Int} (h : (Lit.int .u8 x).wf = true) : ∃ n : Nat, x = n ∧ n < 256 := by
 have b := bounds_u8 h
 obtain ⟨n, rfl⟩ := Int.eq_ofNat_of_zero_le b.1
 exact ⟨n, rfl, by omega⟩
open Go.ChangeShapes Go.WideShapes Go.ChangeAt Go.RowKit Go.Deep
theorem open_list {H : Type} {enc : TypeId × Value → H} {W : World} {r : Reach} {base b0 : Nat} {spare : Nat → Bool} {held : Bool} {v : Value} {d : DataW H} {p : List MemPlace}
  (hv : Value.okWide Tryz.prog W r b0 48 v) (h : DataW.Trod enc Tryz.prog W base spare held 48 v d p) : ∃ l : List Nat, (∀ b ∈ l, b < 2 ^ (64 * 2)) ∧ Sl W v l := by
 obtain ⟨a0, len0, cap0, rfl⟩ := okWide_slice Tryz.underlying48 hv
 obtain ⟨m, hm⟩ := h
 have hm' : DataW.trod enc Tryz.prog W base spare held m 48 [.slice a0 len0 cap0] = some (d, p) := hm
 have cu : Tryz.prog.cellsOf 25 = 1 := by kernel_rfl
 rcases open_slice_pairs Tryz.underlying48 Tryz.underlying27 bits_cells rfl rfl cu cu hm' with ⟨h0, -⟩ | ⟨ad, len, cap, q, n, V0, V1, D0, D1, P0, P1, hcs, -, hl, -, hq, -, hall⟩
 ·simp only [List.cons.injEq, and_true] at h0
  exact ⟨[], (by intro b hb; cases hb), Or.inl ⟨none, 0, h0, rfl, fun _ => rfl⟩⟩
 ·simp only [List.cons.injEq, and_true] at hcs
  have hlq : len ≤ q := by rw [hq]; split <;> omega
  rcases Nat.eq_zero_or_pos len with rfl | hpos
  ·exact ⟨[], (by intro b hb; cases hb), Or.inl ⟨some ad, cap, hcs, rfl, fun h => by cases h⟩⟩
  obtain ⟨g, o, spot⟩ := ad
  have hspot : spot = none := by simpa [Addr.add] using World.cell?_spot (hall 0 (by omega)).1
  subst hspot
  have each : ∀ i, i < q → ∃ b : Nat, b < 2 ^ (64 * 2) ∧ V0 i = .int .u64 (limb b 1) ∧ V1 i = .int .u64 (limb b 0) := by
   intro i hi
   obtain ⟨-, -, t0, t1⟩ := hall i hi
   obtain ⟨x, e0, -, wx⟩ := DataW.trod_int Tryz.underlying25 t0
   obtain ⟨y, e1, -, wy⟩ := DataW.trod_int Tryz.underlying25 t1
   simp only [List.cons.injEq, and_true] at e0 e1
   have bx := bounds_u64 wx
   have bY := bounds_u64 wy
   obtain ⟨x', rfl⟩ : ∃ x' : Nat, x = x' := ⟨x.toNat, by omega⟩
   obtain ⟨y', rfl⟩ : ∃ y' : Nat, y = y' := ⟨y.toNat, by omega⟩
   obtain ⟨b, hb, hlt⟩ := two_words x' y' (by omega) (by omega)
   injection hb with hb
   have h2 := congrArg Array.toList hb
   simp only [List.cons.injEq, and_true] at h2
   exact ⟨b, hlt, by rw [e0, h2.1], by rw [e1, h2.2]⟩
  obtain ⟨B, hB⟩ := choose_lt each
  refine ⟨(List.range len).map B, ?_, Or.inr ⟨g, o, len, cap, hcs, hpos, hl, by simp, ?_, ?_⟩⟩
  ·intro b hb
   obtain ⟨i, hi, rfl⟩ := List.mem_map.1 hb
   exact (hB i (by have := List.mem_range.1 hi; omega)).1
  ·exact World.block_lt_of_cell? W _ (hall 0 (by omega)).1
  ·intro k b hk
   have hkl : k < len := by have := (List.getElem?_eq_some_iff.1 hk).1; simpa using this
   have hbk : B k = b := by simpa [hkl] using hk
   obtain ⟨c0, c1, -, -⟩ := hall k (by omega)
   obtain ⟨-, v0, v1⟩ := hB k (by omega)
   rw [Addr.add_mid] at c0 c1
   rw [v0, hbk] at c0
   rw [v1, hbk] at c1
   exact range_two c0 c1
end Go.Proofs.YtgmhmpflmgfcdaaGreatDoor
