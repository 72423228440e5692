/- Part 33 of the proof. -/
import Derived.Test.YtgmhmpflmgfcdaaGreatDoorHq4
import Derived.Test.YtgmhmpflmgfcdaaGreatDoorHq5
import Derived.Test.YtgmhmpflmgfcdaaGreatDoorHq7
import Derived.Test.YtgmhmpflmgfcdaaGreatDoorHq8
import Derived.Test.YtgmhmpflmgfcdaaGreatDoorHq9
import Derived.Test.YtgmhmpflmgfcdaaGreatDoorHq32
set_option linter.unusedSimpArgs false
set_option linter.unusedVariables false
set_option linter.unnecessarySimpa false
set_option maxRecDepth 100000
set_option maxHeartbeats 3200000
namespace Go.Proofs.YtgmhmpflmgfcdaaGreatDoor
def ofR (f : Nat) (neg : Bool) (n : Nat) (e : Int) : Option Nat :=
 if (eF f : Int) < lenN n - 1 + e then none
 else if e < atN f (lenN n - 1 + e) then none
 else if lenN (n * 2 ^ (e - atN f (lenN n - 1 + e)).toNat) < pF f then some (mkN f neg 0 (n * 2 ^ (e - atN f (lenN n - 1 + e)).toNat))
 else some (mkN f neg (atN f (lenN n - 1 + e) - eminI f + pF f).toNat (n * 2 ^ (e - atN f (lenN n - 1 + e)).toNat % 2 ^ (pF f - 1)))
theorem gcdX_one (n : Nat) (hn : n ≠ 0) : gcdX n 1 = 1 := by
 unfold gcdX
 rw [show lowZ 1 = 0 by decide, Nat.pow_zero, Nat.div_one, Nat.gcd_one_right]
theorem numX_one (n : Nat) (hn : n ≠ 0) (e : Int) : numX n 1 = n / 2 ^ lowZ n ∧ denX n 1 = 1 ∧ expX n 1 e = e + lowZ n := by
 unfold numX denX expX
 rw [if_neg hn, if_neg hn, if_neg hn, gcdX_one n hn, Nat.div_one, show lowZ 1 = 0 by decide, Nat.pow_zero, Nat.div_one, Nat.div_one]
 exact ⟨rfl, rfl, by omega⟩
theorem lenN_mul_pow (n k : Nat) (hn : n ≠ 0) : lenN (n * 2 ^ k) = lenN n + k := by
 have h := lenN_div (n * 2 ^ k) k (by rw [Nat.mul_div_cancel _ (two_pos k)]; exact hn)
 rw [Nat.mul_div_cancel _ (two_pos k)] at h; exact h.symm
theorem ofR_enc (f : Nat) (neg : Bool) (M : Nat) (q : Int) (hf : f < 4) (hM : M ≠ 0) (hM2 : M ≤ 2 ^ pF f) (hq : eminI f - pF f + 1 ≤ q) (hn : 2 ^ (pF f - 1) ≤ M ∨ q = eminI f - pF f + 1) :
  ofR f neg (M / 2 ^ lowZ M) (q + lowZ M) = if (eF f : Int) < lenN M - 1 + q then none else some (encN f neg M q) := by
 obtain ⟨m1, m2, m3⟩ := low_split M hM
 have hp : 11 ≤ pF f := (formB f hf).1
 have hl : (lenN (M / 2 ^ lowZ M) : Int) - 1 + (q + lowZ M) = lenN M - 1 + q := by
  have := lenN_mul_pow (M / 2 ^ lowZ M) (lowZ M) m3
  rw [← m1] at this; omega
 unfold ofR
 rw [hl]
 by_cases h1 : (eF f : Int) < lenN M - 1 + q
 ·rw [if_pos h1, if_pos h1]
 rw [if_neg h1, if_neg h1]
 have mk : ∀ k : Nat, 2 ^ (pF f - 1) ≤ k → k < 2 ^ pF f → ∀ r : Int, eminI f - pF f + 1 ≤ r → mkN f neg (r - eminI f + pF f).toNat (k % 2 ^ (pF f - 1)) = encN f neg k r := by
  intro k k1 k2 r hr
  have e1 : k % 2 ^ (pF f - 1) = k - 2 ^ (pF f - 1) := by
   have e2 : 2 ^ pF f = 2 ^ (pF f - 1) + 2 ^ (pF f - 1) := pow_pred f hf
   rw [Nat.mod_eq_sub_mod k1, Nat.mod_eq_of_lt (by omega)]
  unfold mkN encN
  rw [e1, show (r - eminI f + (pF f : Int)).toNat = (r - eminI f + (pF f : Int) - 1).toNat + 1 by omega, Nat.add_mul, Nat.one_mul]
  omega
 have hle : lenN M ≤ pF f + 1 := lenN_le_of M (pF f) hM2
 by_cases hfull : M = 2 ^ pF f
 ·have hlen : lenN M = pF f + 1 := by
   rw [hfull]; exact lenN_unique _ _ (by rw [Nat.add_sub_cancel]; exact Nat.le_refl _) (Nat.pow_lt_pow_right (by decide) (by omega)) (by omega)
  have hlow : lowZ M = pF f := by
   rw [hfull]; refine lowZ_unique _ _ (Nat.mod_self _) ?_
   unfold bitN; rw [Nat.div_self (two_pos _)]
  have hat : atN f (lenN M - 1 + q) = q + 1 := by unfold atN; rw [hlen]; omega
  rw [hat, hlow, if_neg (by omega), hfull, Nat.div_self (two_pos _), Nat.one_mul, show (q + (pF f : Int) - (q + 1)).toNat = pF f - 1 by omega]
  have hl2 : lenN (2 ^ (pF f - 1)) = pF f := lenN_unique _ _ (Nat.le_refl _) (Nat.pow_lt_pow_right (by decide) (by omega)) (by omega)
  rw [if_neg (by omega), mk _ (Nat.le_refl _) (Nat.pow_lt_pow_right (by decide) (by omega)) (q + 1) (by omega)]
  congr 1
  unfold encN
  have e2 : 2 ^ pF f = 2 ^ (pF f - 1) + 2 ^ (pF f - 1) := pow_pred f hf
  rw [show (q + 1 - eminI f + (pF f : Int) - 1).toNat = (q - eminI f + (pF f : Int) - 1).toNat + 1 by omega, Nat.add_mul, Nat.one_mul]
  omega
 ·have hlt : M < 2 ^ pF f := by omega
  have hlen : lenN M ≤ pF f := (lenN_le M _).2 hlt
  have hat : atN f (lenN M - 1 + q) = q := by
   unfold atN
   rcases hn with h | h
   ·have : lenN M = pF f := by
     have h2 : ¬ lenN M ≤ pF f - 1 := fun h3 => by have := (lenN_le M (pF f - 1)).1 h3; omega
     omega
    omega
   ·omega
  rw [hat, if_neg (by omega), show (q + (lowZ M : Int) - q).toNat = lowZ M by omega, ← m1]
  by_cases h2 : lenN M < pF f
  ·rw [if_pos h2]
   have h3 : M < 2 ^ (pF f - 1) := (lenN_le M _).1 (by omega)
   have h4 : q = eminI f - pF f + 1 := by rcases hn with h | h; omega; exact h
   congr 1
   unfold mkN encN
   rw [show (q - eminI f + (pF f : Int) - 1).toNat = 0 by omega]
  ·rw [if_neg h2]
   have h3 : 2 ^ (pF f - 1) ≤ M := by
    have := lenN_ge M hM
    rw [show lenN M = pF f by omega] at this; exact this
   rw [mk M h3 hlt q hq]
theorem grid_bounds (S : Src) (f m : Nat) (neg : Bool) (E : Int) (hf : f < 4) (hT : Top S E) :
  (gridR S m neg (atN f E)).1 ≤ 2 ^ pF f ∧ (2 ^ (pF f - 1) ≤ (gridR S m neg (atN f E)).1 ∨ atN f E = eminI f - pF f + 1) ∧ eminI f - pF f + 1 ≤ atN f E := by
 have hp : 11 ≤ pF f := (formB f hf).1
 have hA : atN f E = max E (eminI f) - pF f + 1 := rfl
 have hfl : S.fl (atN f E) < 2 ^ pF f := by
  by_cases h : atN f E ≤ E
  ·exact (lenN_le _ _).1 (by have := hT.low _ h; omega)
  ·rw [hT.high _ (by omega)]; exact two_pos _
 refine ⟨?_, ?_, by omega⟩
 ·unfold gridR
  simp only []
  cases upB m neg (decide (S.fl (atN f E) % 2 = 1)) (halfR S (atN f E)) (S.ex (atN f E)) <;> simp <;> omega
 ·by_cases h : eminI f ≤ E
  ·left
   have h1 : atN f E = E - pF f + 1 := by omega
   have h2 := hT.low (atN f E) (by omega)
   have h3 : S.fl (atN f E) ≠ 0 := by intro h4; rw [h4, lenN_zero] at h2; omega
   have h4 := lenN_ge _ h3
   rw [show lenN (S.fl (atN f E)) = pF f by omega] at h4
   unfold gridR
   exact Nat.le_trans h4 (Nat.le_add_right _ _)
  ·right; omega
def rndX (f m : Nat) (neg : Bool) (n d : Nat) (e : Int) : Nat × Nat := if h : 0 < d then deliverR (ratS n d e h) f m neg (topX n d + e) else (0, 0)
theorem rnd_src (f m : Nat) (neg : Bool) (n d : Nat) (e : Int) (h : 0 < d) : rndX f m neg n d e = deliverR (ratS n d e h) f m neg (topX n d + e) := by
 unfold rndX; rw [dif_pos h]
theorem rnd_digits (f m : Nat) (neg : Bool) (n d : Nat) (e : Int) (k : Nat) (hf : f < 4) (hn : n ≠ 0) (hd : 0 < d) (h0 : n * 2 ^ k / d ≠ 0) (h : n * 2 ^ k % d = 0 ∨ pF f + 2 ≤ lenN (n * 2 ^ k / d)) :
  packB f m neg (n * 2 ^ k / d) (e - k) (!decide (n * 2 ^ k % d = 0)) = rndX f m neg n d e := by
 have hfl : (ratS n d e hd).fl (e - k) = n * 2 ^ k / d := by
  show ratFl n d e (e - k) = _
  unfold ratFl
  rw [show (e - (e - (k : Int))).toNat = k by omega, show (e - (k : Int) - e).toNat = 0 by omega, Nat.pow_zero, Nat.mul_one]
 have hex : (ratS n d e hd).ex (e - k) = decide (n * 2 ^ k % d = 0) := by
  show ratEx n d e (e - k) = _
  unfold ratEx
  rw [show (e - (e - (k : Int))).toNat = k by omega, show (e - (k : Int) - e).toNat = 0 by omega, Nat.pow_zero, Nat.mul_one]
 have key := deliver_src (ratS n d e hd) f m neg (e - k) hf (by rw [hfl]; exact h0) (by rw [hfl, hex, decide_eq_true_iff]; exact h)
 have t1 := top_src (ratS n d e hd) (e - k) (by rw [hfl]; exact h0)
 rw [top_unique _ _ _ t1 (rat_top n d e hn hd)] at key
 rw [hfl, hex] at key
 rw [key, rnd_src _ _ _ _ _ _ hd]
theorem rnd_whole (f m : Nat) (neg : Bool) (n : Nat) (e : Int) (hf : f < 4) (hn : n ≠ 0) : packB f m neg n e false = rndX f m neg n 1 e := by
 have h := rnd_digits f m neg n 1 e 0 hf hn (by decide) (by rw [Nat.pow_zero, Nat.mul_one, Nat.div_one]; exact hn) (Or.inl (Nat.mod_one _))
 rw [Nat.pow_zero, Nat.mul_one, Nat.div_one, Nat.mod_one, decide_eq_true rfl] at h
 rw [show e - ((0 : Nat) : Int) = e by omega] at h
 exact h
theorem root_top (S : Src) (E : Int) (h : Top S E) : Top (rootS S) (E / 2) := by
 apply top_one
 show isq (S.fl (2 * (E / 2))) = 1
 have h1 := h.low (2 * (E / 2)) (by omega)
 have h2 : lenN (S.fl (2 * (E / 2))) = 1 ∨ lenN (S.fl (2 * (E / 2))) = 2 := by omega
 have h3 := lenN_lt (S.fl (2 * (E / 2)))
 have h4 : S.fl (2 * (E / 2)) ≠ 0 := by intro h5; rw [h5, lenN_zero] at h2; omega
 apply isq_unique
 ·omega
 ·rcases h2 with h2 | h2 <;> rw [h2] at h3 <;> omega
theorem rat_low_src (n d i j : Nat) (e : Int) (hd : 0 < d) (hd' : 0 < d * 2 ^ j) : ratS (n * 2 ^ i) (d * 2 ^ j) e hd' = ratS n d (e + i - j) hd :=
 src_eq _ _ (fun a => (rat_low n d i j e hd a).1) (fun a => (rat_low n d i j e hd a).2)
theorem rnd_low (f m : Nat) (neg : Bool) (n d i j : Nat) (e : Int) (hn : n ≠ 0) (hd : 0 < d) : rndX f m neg (n * 2 ^ i) (d * 2 ^ j) e = rndX f m neg n d (e + i - j) := by
 have h1 : 0 < d * 2 ^ j := Nat.mul_pos hd (two_pos j)
 have hs := rat_low_src n d i j e hd h1
 have t1 := rat_top (n * 2 ^ i) (d * 2 ^ j) e (Nat.mul_ne_zero hn (Nat.ne_of_gt (two_pos i))) h1
 have t2 := rat_top n d (e + i - j) hn hd
 rw [rnd_src _ _ _ _ _ _ h1, rnd_src _ _ _ _ _ _ hd, hs]
 rw [hs] at t1
 rw [top_unique _ _ _ t1 t2]
theorem rnd_odd (f m : Nat) (neg : Bool) (s : Nat) (e : Int) (hs : s ≠ 0) : rndX f m neg (s / 2 ^ lowZ s) 1 (e + lowZ s) = rndX f m neg s 1 e := by
 obtain ⟨p1, p2, p3⟩ := low_split s hs
 have h := rnd_low f m neg (s / 2 ^ lowZ s) 1 (lowZ s) 0 e p3 (by decide)
 rw [← p1, Nat.pow_zero, Nat.mul_one] at h
 rw [h]; congr 1; omega
open Go.RowKit Go.Proofs.YtgmhmpflmgfcdaaGreatDoorW.PrintWords Go.Proofs.YtgmhmpflmgfcdaaGreatDoor.PDivQuotients
theorem strB_one : strB 1 = (⟨#[1]⟩ : ByteArray) := by decide +kernel
theorem one_list (g : Nat) : (strB g).toList = ([1] : List UInt8) ↔ g = 1 := by
 constructor
 ·intro h
  rw [strB_list] at h
  have hl := congrArg List.length h
  rw [List.length_map, mkL_length, List.length_singleton] at hl
  have hg := nb_lt g
  rw [hl, Nat.pow_one] at hg
  rw [hl] at h
  have e : byt g 0 = g := by unfold byt; rw [Nat.pow_zero, Nat.div_one, Nat.mod_eq_of_lt hg]
  have h2 : UInt8.ofNat (((byt g (1 - 1 - 0) : Nat) : Int).toNat) = 1 := by
   have h3 := congrArg (fun l : List UInt8 => l[0]?) h
   simp only [List.getElem?_map] at h3
   rw [mkL_get 1 _ 0 (by decide)] at h3
   exact Option.some.inj h3
  rw [show 1 - 1 - 0 = 0 from rfl, e, Int.toNat_natCast] at h2
  have h4 := congrArg UInt8.toNat h2
  rw [UInt8.toNat_ofNat'] at h4
  have h5 : (1 : UInt8).toNat = 1 := rfl
  rw [h5] at h4
  omega
 ·rintro rfl; rw [strB_one]; decide +kernel
theorem lowZ_lt (n : Nat) (h : n ≠ 0) : lowZ n < lenN n := by
 obtain ⟨s1, s2, s3⟩ := low_split n h
 have h1 : 2 ^ lowZ n ≤ n := by
  have := Nat.mul_le_mul_right (2 ^ lowZ n) (Nat.one_le_iff_ne_zero.2 s3)
  rw [← s1, Nat.one_mul] at this; exact this
 rcases Nat.lt_or_ge (lowZ n) (lenN n) with h2 | h2
 ·exact h2
 ·have := (lenN_le n _).1 h2; omega
theorem len_nb (n : Nat) (h : nb n ≤ 16384) : lenN n ≤ 131072 := by unfold nb at h; omega
theorem nb_len (n : Nat) (h : lenN n ≤ 131072) : nb n ≤ 16384 := by unfold nb; omega
theorem low_le (n : Nat) (h : nb n ≤ 16384) : lowZ n ≤ 131072 := by
 by_cases h0 : n = 0
 ·subst h0; decide
 ·have := lowZ_lt n h0; have := len_nb n h; omega
theorem nb_div (n d : Nat) (h : nb n ≤ 16384) : nb (n / d) ≤ 16384 := Nat.le_trans (nb_mono _ _ (Nat.div_le_self n d)) h
theorem topX_le (n d : Nat) : topX n d ≤ (lenN n : Int) - (lenN d : Int) := by
 unfold topX; repeat' split
 all_goals omega
theorem top6_byte (a : Nat) (k : Nat) (hk : k = 48) (ha : a < top6) : a < 256 ^ k := by
 rw [pow256, hk, show 8 * 48 = 64 * 6 from rfl, ← top6.eq_1]; exact ha
theorem limb_byte (a k q r : Nat) (hk : k = 8 * q + r) (hr : r < 8) : limbN a q / 2 ^ (8 * r) % 256 = byt a k := by
 unfold limbN byt
 rw [B64, pow256, show 8 * k = 64 * q + 8 * r by omega, Nat.pow_add, ← Nat.div_div_eq_div_mul]
 generalize a / 2 ^ (64 * q) = x
 rw [show (2 : Nat) ^ 64 = 2 ^ (8 * r) * 2 ^ (64 - 8 * r) by rw [← Nat.pow_add]; congr 1; omega, Nat.mod_mul_right_div_self, show (256 : Nat) = 2 ^ 8 from rfl, Nat.mod_mod_of_dvd _ (Nat.pow_dvd_pow 2 (by omega))]
theorem rowB_setI (v N i b : Nat) (x : Int) (hx : x = ((b : Nat) : Int)) (hv : v < 256 ^ i) (hb : b < 256) : setRow (rowB v N) i (#[.int .u8 x] : Array Value).toList = rowB (v + b * 256 ^ i) N := by
 subst hx; exact rowB_set v N i b hv hb
theorem fit_calls (v N c : Nat) (g : Nat) (w : World) (hB : Blk 5 w g (rowB v N)) (hv : v < 256 ^ N) (hN : N ≤ 65536) (hc : N ≤ c) :
  CR_ 134 #[.slice (some ⟨g, 0, none⟩) N c] w (.string (strB v)) := by
 have h := z05_fit.calls (N + 4) (some ⟨g, 0, none⟩) c (byL v N) (strB v) w (by rw [byL_length]; exact hB.bytes hN) (by rw [byL_length]; exact hc) (fit_byL v N (N + 4) hv (by omega) (Nat.le_refl _))
 rw [byL_length] at h
 exact h
theorem r5OfWide_any (a : Nat) (w0 : World) (ha : a < top6) :
  CR_ 170 #[W a] w0 (.string (strB a)) := by
 have H := Own.start w0
 have HA := Lib.hid ha
 clear ha
 go_enter Tryz.func170, Tryz.ntmps170
 go_wp2_with (first
  | ((with_reducible refine g11_ rfl rfl ?_); refine H.xb ?_; (intro ga w H; simp only [Act.put, q1_, q2_, q3_]))
  | ((with_reducible refine g0_ rfl ?_); refine H.xb ?_; (intro g w H; simp only [Act.put, q1_, q2_, q3_]))
  | ((with_reducible refine g1_ rfl ?_); refine H.xa ?_; (intro g w H; simp only [Act.put, q1_, q2_, q3_]))
  | ((with_reducible refine g2_ rfl ?_); (first | refine H.xl ?_ | refine H.xm ?_); simp only [Act.put, q1_, q2_, q3_])
  | ((with_reducible refine g3_ rfl ?_); (first | refine H.xs ?_ | refine H.xt ?_); (intro w H; simp only [Act.put]))
  | ((with_reducible show wpList _ _ _ (⟨_, .makeSlice 143 _ _, _, _, _, _⟩ :: _) _ _); refine H.mks rfl rfl rfl rfl (by decide) ?_; (intro gl w H; simp only [Act.put, q1_, q2_, q3_]))
  )
 go_loopw [4] (fun iv wr => ∃ (k : Nat), k ≤ 48 ∧ iv = .int .i64 k ∧ Own w0 wr [(gl, 5, rowB (a % 256 ^ k) 48), (ga, 60, limbs a)]) (fun i _ => 48 - (intOf i).toNat)
 case atStart => exact ⟨0, by omega, rfl, by rw [Nat.pow_zero, Nat.mod_one]; exact H⟩
 case round =>
  clear H
  obtain ⟨k, hk, rfl, H⟩ := hrel
  by_cases hlt : k < 48
  ·have hlti : (k : Int) < 48 := by omega
   obtain ⟨q, hq⟩ : ∃ q : Nat, k / 8 = q := ⟨_, rfl⟩
   obtain ⟨r, hr⟩ : ∃ r : Nat, k % 8 = r := ⟨_, rfl⟩
   have hq6 : q < 6 := by omega
   have hq6i : (q : Int) < 6 := by omega
   have hr8 : r < 8 := by omega
   have t1 : IntKind.i64.wrap ((k : Int).tdiv 8) = (q : Int) := by rw [Int.tdiv_eq_ediv_of_nonneg (by omega), show (k : Int) / 8 = (q : Int) by omega]; exact IntWalk.i64_in _ (by omega)
   have t1' : (k : Int) / 8 = (q : Int) := by omega
   have t2 : (k : Int).tmod 8 = (r : Int) := by rw [Int.tmod_eq_emod_of_nonneg (by omega)]; omega
   have t2' : (k : Int) % 8 = (r : Int) := by omega
   have t3 : IntKind.u64.wrap (8 * (r : Int)) = 8 * (r : Int) := by rw [IntKind.wrap_u64]; omega
   have t4 : min (8 * (r : Int)).toNat 64 = 8 * r := by omega
   have hb := limb_byte a k q r (by omega) hr8
   have hbl := byt_lt a k
   have HM := Lib.hid (mod_byte a k)
   have HL := Lib.hid (Nat.mod_lt a (pos256 k))
   have G : (limbs a)[q]? = some (.int .u64 ((limbN a q : Nat) : Int)) := limbs_get a q hq6
   have HV8 := Lib.hid (show ((limbN a q : Nat) : Int) / 2 ^ (8 * r) % 256 = ((byt a k : Nat) : Int) by rw [← hb]; simp)
   clear hq hr hb
   go_wp2_with (first
  | ((with_reducible refine g11_ rfl rfl ?_); refine H.xb ?_; (intro ga w H; simp only [Act.put, q1_, q2_, q3_]))
  | ((with_reducible refine g7_ rfl ?_); refine H.xm ?_ (hv := by first | with_reducible exact G); simp only [Act.put, q1_, q2_, q3_])
  | ((with_reducible show wpList _ _ _ (⟨_, .store 5 _ _, _, _, _, _⟩ :: _) _ _); refine H.xt ?_ (hv := rowB_setI _ _ _ _ _ HV8.out HL.out hbl); (intro w H; simp only [Act.put]))
  | ((with_reducible refine g0_ rfl ?_); refine H.xb ?_; (intro g w H; simp only [Act.put, q1_, q2_, q3_]))
  | ((with_reducible refine g1_ rfl ?_); refine H.xa ?_; (intro g w H; simp only [Act.put, q1_, q2_, q3_]))
  | ((with_reducible refine g2_ rfl ?_); (first | refine H.xl ?_ | refine H.xm ?_); simp only [Act.put, q1_, q2_, q3_])
  | ((with_reducible refine g3_ rfl ?_); (first | refine H.xs ?_ | refine H.xt ?_); (intro w H; simp only [Act.put]))
  | ((with_reducible show wpList _ _ _ (⟨_, .makeSlice 143 _ _, _, _, _, _⟩ :: _) _ _); refine H.mks rfl rfl rfl rfl (by decide) ?_; (intro gl w H; simp only [Act.put, q1_, q2_, q3_]))
  )
   all_goals
    go_roundw
    case rel => exact ⟨k + 1, by omega, by go_num, by rw [HM.out]; exact H⟩
    case measure => simp [intOf] <;> omega
  ·obtain rfl : k = 48 := by omega
   have HV := Lib.hid (Nat.mod_lt a (pos256 48))
   have HE := Lib.hid (show a % 256 ^ 48 = a from Nat.mod_eq_of_lt (top6_byte a 48 rfl HA.out))
   clear hlt hk
   go_wp2_with (first
  | ((with_reducible refine g11_ rfl rfl ?_); refine H.xb ?_; (intro ga w H; simp only [Act.put, q1_, q2_, q3_]))
  | ((with_reducible refine g0_ rfl ?_); refine H.xb ?_; (intro g w H; simp only [Act.put, q1_, q2_, q3_]))
  | ((with_reducible refine g1_ rfl ?_); refine H.xa ?_; (intro g w H; simp only [Act.put, q1_, q2_, q3_]))
  | ((with_reducible refine g2_ rfl ?_); (first | refine H.xl ?_ | refine H.xm ?_); simp only [Act.put, q1_, q2_, q3_])
  | ((with_reducible refine g3_ rfl ?_); (first | refine H.xs ?_ | refine H.xt ?_); (intro w H; simp only [Act.put]))
  | ((with_reducible show wpList _ _ _ (⟨_, .makeSlice 143 _ _, _, _, _, _⟩ :: _) _ _); refine H.mks rfl rfl rfl rfl (by decide) ?_; (intro gl w H; simp only [Act.put, q1_, q2_, q3_]))
  | (go_at_call 134; ((with_reducible refine (fit_calls (a % 256 ^ 48) 48 48 gl _ (H.blk (gl, 5, _) v2_) HV.out (by decide) (by decide)).mono ?_); rintro e w ⟨rfl, hb⟩; replace H := H.call hb; clear hb))
  )
   go_ret
   exact ⟨by rw [HE.out]; rfl, H.below⟩
open Go.RowKit
def exAt : Array (Nat × Nat) := #[(0, 1), (1, 1), (2, 1), (3, 1)]
theorem places_ex (w : World) : ∃ fs, Tryz.prog.underlying 87 = some (.struct fs) ∧ (fs.mapM fun f => do pure (f.offset, ← sizeOf f.type) : Sem (Array (Nat × Nat))).run Tryz.prog w = .ok exAt w := by
 refine ⟨_, Tryz.underlying87, ?_⟩
 unfold exAt
 go_simp
theorem ex_s0 (neg : Bool) (n d : ByteArray) (e : Int) (x : Bool) (rest : List (Nat × Value)) : Instr.fill (exAt[·]?) (exC neg n d e) ((0, .bool x) :: rest) = Instr.fill (exAt[·]?) (exC x n d e) rest := fill_step _ _ 0 0 1 _ _ rfl rfl (show 0 + 1 ≤ 4 by decide)
theorem ex_s1 (neg : Bool) (n d : ByteArray) (e : Int) (x : ByteArray) (rest : List (Nat × Value)) : Instr.fill (exAt[·]?) (exC neg n d e) ((1, .string x) :: rest) = Instr.fill (exAt[·]?) (exC neg x d e) rest := fill_step _ _ 1 1 1 _ _ rfl rfl (show 1 + 1 ≤ 4 by decide)
theorem ex_s2 (neg : Bool) (n d : ByteArray) (e : Int) (x : ByteArray) (rest : List (Nat × Value)) : Instr.fill (exAt[·]?) (exC neg n d e) ((2, .string x) :: rest) = Instr.fill (exAt[·]?) (exC neg n x e) rest := fill_step _ _ 2 2 1 _ _ rfl rfl (show 2 + 1 ≤ 4 by decide)
theorem ex_s3 (neg : Bool) (n d : ByteArray) (e x : Int) (rest : List (Nat × Value)) : Instr.fill (exAt[·]?) (exC neg n d e) ((3, .int .i64 x) :: rest) = Instr.fill (exAt[·]?) (exC neg n d x) rest := fill_step _ _ 3 3 1 _ _ rfl rfl (show 3 + 1 ≤ 4 by decide)
theorem ex_mk (neg : Bool) (n d : ByteArray) (e : Int) (w : World) : (Instr.build 87 #[(0, .bool neg), (1, .string n), (2, .string d), (3, .int .i64 e)]).run Tryz.prog w = .ok (.agg (exC neg n d e)) w := by
 obtain ⟨fs, hu, hp⟩ := places_ex w
 exact run_build rEx hu hp _ _ (by show Instr.fill _ _ [_, _, _, _] = _; rw [ex_s0, ex_s1, ex_s2, ex_s3]; rfl)
theorem ex_den (d : ByteArray) (w : World) : (Instr.build 87 #[(2, .string d)]).run Tryz.prog w = .ok (.agg (exC false ⟨#[]⟩ d 0)) w := by
 obtain ⟨fs, hu, hp⟩ := places_ex w
 exact run_build rEx hu hp _ _ (by show Instr.fill _ _ [_] = _; rw [ex_s2]; rfl)
theorem wp_bldE {P : Program} {op : Oper} {a : Act} {Q : Exit → Act → World → Prop} {ops : Array Oper} {rest : List Oper} {w : World} {t : TypeId} {i : Nat} {x : Operand} (hw : Region.wanted op (yielded ops a.tmps) = true) (ho : op.op = .build t #[(i, x)]) {u1 : Value} (h1 : a.eval x = u1) {v : Value}
  (hv : ∀ w, (Instr.build t #[(i, u1)]).run P w = .ok v w) (h : wpList P ops Q rest (a.put op.dst v) w) : wpList P ops Q (op :: rest) a w :=
 wp_bld hw ho (by simp [h1]) hv h
theorem set_exl (neg : Bool) (n d : ByteArray) (e : Int) (x : Bool) (n' d' : ByteArray) (e' : Int) : setRow (exC neg n d e) 0 (#[.bool x, .string n', .string d', .int .i64 e'] : Array Value).toList = exC x n' d' e' := set_ex _ _ _ _ _ _ _ _
theorem r6Null_any (w : World) :
  CR_ 147 #[] w (.agg (exC false ⟨#[]⟩ ⟨#[1]⟩ 0)) := by
 have H := Own.start w
 go_enter Tryz.func147, Tryz.ntmps147
 go_wp2_with (first
  | ((with_reducible refine g17_ rfl ?_); refine H.xs ?_ (hv := set_exl _ _ _ _ _ _ _ _); (intro w H; simp only [Act.put]))
  | ((with_reducible refine g0_ rfl ?_); refine H.xb ?_; (intro g w H; simp only [Act.put, q1_, q2_, q3_]))
  | ((with_reducible refine g1_ rfl ?_); refine H.xa ?_; (intro g w H; simp only [Act.put, q1_, q2_, q3_]))
  | ((with_reducible refine g2_ rfl ?_); (first | refine H.xl ?_ | refine H.xm ?_); simp only [Act.put, q1_, q2_, q3_])
  | ((with_reducible refine g3_ rfl ?_); (first | refine H.xs ?_ | refine H.xt ?_); (intro w H; simp only [Act.put]))
  )
 all_goals
  refine bodyPost_ret (results_c rfl rfl (H.res rEx v2_ (ext_ex _ _ _ _) (by rfl))) rfl ⟨?_, H.below⟩
  exact rfl
theorem r6Make_z (neg : Bool) (n d : ByteArray) (ee : Int) (w : World) (he1 : -900000 ≤ ee) (he2 : ee ≤ 900000) (h1 : decide (ee < -1048576) = false) (h2 : decide (1048576 < ee) = false) (cM : CK_ 135 #[.string n] (.bool true)) (cm : CK_ 135 #[.string d] (.bool true)) (f_d : d.toList.isEmpty = false) (f_d' : ¬ (d.toList = [])) (f_n : n.toList.isEmpty = true) (f_n' : n.toList = [])  :
  CR_ 63 #[.bool neg, .string n, .string d, .int .i64 ee] w (.tuple #[.agg (exC false ⟨#[]⟩ ⟨#[1]⟩ 0), .int .i64 0]) := by
 have H := Own.start w
 go_enter Tryz.func63, Tryz.ntmps63
 exact walk3
theorem r6Make_1 (neg l1 l2 : Bool) (n d n1 d1 g : ByteArray) (ee : Int) (a b : Nat) (w : World) (ha : a ≤ 131072) (hb : b ≤ 131072) (he1 : -900000 ≤ ee) (he2 : ee ≤ 900000) (h1 : decide (ee < -1048576) = false) (h2 : decide (1048576 < ee) = false) (h3 : decide (ee + (a : Int) - (b : Int) < -1048576) = false) (h4 : decide (1048576 < ee + (a : Int) - (b : Int)) = false) (cM : CK_ 135 #[.string n] (.bool true)) (cm : CK_ 135 #[.string d] (.bool true)) (f_d : d.toList.isEmpty = false) (f_d' : ¬ (d.toList = [])) (f_n : n.toList.isEmpty = false) (f_n' : ¬ (n.toList = [])) (cA : CK_ 131 #[.string n] (.int .i64 (a : Nat))) (ca : CK_ 131 #[.string d] (.int .i64 (b : Nat))) (cR : CK_ 148 #[.string n, .int .i64 (a : Nat)] (.tuple #[.string n1, .bool l1, .int .i64 0])) (cr : CK_ 148 #[.string d, .int .i64 (b : Nat)] (.tuple #[.string d1, .bool l2, .int .i64 0])) (cG : CK_ 149 #[.string n1, .string d1] (.string g)) (g1 : (g.toList == ([1] : List UInt8)) = true) (g1' : g.toList = [1])  :
  CR_ 63 #[.bool neg, .string n, .string d, .int .i64 ee] w (.tuple #[.agg (exC neg n1 d1 (ee + (a : Int) - (b : Int))), .int .i64 0]) := by
 have H := Own.start w
 go_enter Tryz.func63, Tryz.ntmps63
 exact walk3
theorem r6Make_d (neg l1 l2 : Bool) (n d n1 d1 n2 d2 r1 r2 g : ByteArray) (ee : Int) (a b : Nat) (w : World) (ha : a ≤ 131072) (hb : b ≤ 131072) (he1 : -900000 ≤ ee) (he2 : ee ≤ 900000) (h1 : decide (ee < -1048576) = false) (h2 : decide (1048576 < ee) = false) (h3 : decide (ee + (a : Int) - (b : Int) < -1048576) = false) (h4 : decide (1048576 < ee + (a : Int) - (b : Int)) = false) (cM : CK_ 135 #[.string n] (.bool true)) (cm : CK_ 135 #[.string d] (.bool true)) (f_d : d.toList.isEmpty = false) (f_d' : ¬ (d.toList = [])) (f_n : n.toList.isEmpty = false) (f_n' : ¬ (n.toList = [])) (cA : CK_ 131 #[.string n] (.int .i64 (a : Nat))) (ca : CK_ 131 #[.string d] (.int .i64 (b : Nat))) (cR : CK_ 148 #[.string n, .int .i64 (a : Nat)] (.tuple #[.string n1, .bool l1, .int .i64 0])) (cr : CK_ 148 #[.string d, .int .i64 (b : Nat)] (.tuple #[.string d1, .bool l2, .int .i64 0])) (cG : CK_ 149 #[.string n1, .string d1] (.string g)) (cD : CK_ 150 #[.string n1, .string g] (.tuple #[.string n2, .string r1, .int .i64 0])) (cd : CK_ 150 #[.string d1, .string g] (.tuple #[.string d2, .string r2, .int .i64 0])) (g1 : (g.toList == ([1] : List UInt8)) = false) (g1' : ¬ (g.toList = [1]))  :
  CR_ 63 #[.bool neg, .string n, .string d, .int .i64 ee] w (.tuple #[.agg (exC neg n2 d2 (ee + (a : Int) - (b : Int))), .int .i64 0]) := by
 have H := Own.start w
 go_enter Tryz.func63, Tryz.ntmps63
 exact walk3
theorem r6Mul_w (n1 n2 n3 : Bool) (s1 d1 s2 d2 A B s3 d3 : ByteArray) (e1 e2 e3 er : Int) (w : World) (h1 : -400000 ≤ e1) (h2 : e1 ≤ 400000) (h3 : -400000 ≤ e2) (h4 : e2 ≤ 400000) (q1 : decide ((e1 + e2) < -1048576) = false) (q2 : decide (1048576 < (e1 + e2)) = false) (f_s1 : s1.toList.isEmpty = false) (f_s1' : ¬ (s1.toList = [])) (f_s2 : s2.toList.isEmpty = false) (f_s2' : ¬ (s2.toList = [])) (cA : CK_ 171 #[.string s1, .string s2] (.tuple #[.string A, .int .i64 0])) (cB : CK_ 171 #[.string d1, .string d2] (.tuple #[.string B, .int .i64 0])) (cK : CK_ 63 #[.bool (!(n1 == n2)), .string A, .string B, .int .i64 (e1 + e2)] (.tuple #[.agg (exC n3 s3 d3 e3), .int .i64 er]))  :
  CR_ 118 #[.agg (exC n1 s1 d1 e1), .agg (exC n2 s2 d2 e2)] w (.tuple #[.agg (exC n3 s3 d3 e3), .int .i64 er]) := by
 have H := Own.start w
 go_enter Tryz.func118, Tryz.ntmps118
 exact walk4
theorem r6shifted_w (a b : ByteArray) (n : Int) (er : Int) (w : World) (cL : CK_ 196 #[.string a, .int .i64 n] (.tuple #[.string b, .int .i64 er]))  :
  CR_ 224 #[.string a, .int .i64 n] w (.string b) := by
 have H := Own.start w
 go_enter Tryz.func224, Tryz.ntmps224
 exact walk2
theorem r6Top_yy (neg : Bool) (n d t : ByteArray) (ee c : Int) (a b : Nat) (w : World) (ha : a ≤ 131072) (hb : b ≤ 131072) (he1 : -1048576 ≤ ee) (he2 : ee ≤ 1048576) (f_n : n.toList.isEmpty = false) (f_n' : ¬ (n.toList = [])) (cA : CK_ 203 #[.string n] (.int .i64 (a : Nat))) (cB : CK_ 203 #[.string d] (.int .i64 (b : Nat))) (q0 : decide (b ≤ a) = true) (cS : CK_ 224 #[.string d, .int .i64 ((a : Int) - (b : Int))] (.string t)) (cC : CK_ 57 #[.string n, .string t] (.int .i64 c)) (q1 : decide (0 ≤ c) = true)  :
  CR_ 197 #[.agg (exC neg n d ee)] w (.tuple #[.int .i64 ((a : Int) - (b : Int) + ee), .int .i64 0]) := by
 have H := Own.start w
 go_enter Tryz.func197, Tryz.ntmps197
 exact walk3
theorem r6Top_yn (neg : Bool) (n d t : ByteArray) (ee c : Int) (a b : Nat) (w : World) (ha : a ≤ 131072) (hb : b ≤ 131072) (he1 : -1048576 ≤ ee) (he2 : ee ≤ 1048576) (f_n : n.toList.isEmpty = false) (f_n' : ¬ (n.toList = [])) (cA : CK_ 203 #[.string n] (.int .i64 (a : Nat))) (cB : CK_ 203 #[.string d] (.int .i64 (b : Nat))) (q0 : decide (b ≤ a) = true) (cS : CK_ 224 #[.string d, .int .i64 ((a : Int) - (b : Int))] (.string t)) (cC : CK_ 57 #[.string n, .string t] (.int .i64 c)) (q1 : decide (0 ≤ c) = false)  :
  CR_ 197 #[.agg (exC neg n d ee)] w (.tuple #[.int .i64 ((a : Int) - (b : Int) - 1 + ee), .int .i64 0]) := by
 have H := Own.start w
 go_enter Tryz.func197, Tryz.ntmps197
 exact walk3
theorem r6Top_ny (neg : Bool) (n d t : ByteArray) (ee c : Int) (a b : Nat) (w : World) (ha : a ≤ 131072) (hb : b ≤ 131072) (he1 : -1048576 ≤ ee) (he2 : ee ≤ 1048576) (f_n : n.toList.isEmpty = false) (f_n' : ¬ (n.toList = [])) (cA : CK_ 203 #[.string n] (.int .i64 (a : Nat))) (cB : CK_ 203 #[.string d] (.int .i64 (b : Nat))) (q0 : decide (b ≤ a) = false) (cS : CK_ 224 #[.string n, .int .i64 (-((a : Int) - (b : Int)))] (.string t)) (cC : CK_ 57 #[.string t, .string d] (.int .i64 c)) (q1 : decide (0 ≤ c) = true)  :
  CR_ 197 #[.agg (exC neg n d ee)] w (.tuple #[.int .i64 ((a : Int) - (b : Int) + ee), .int .i64 0]) := by
 have H := Own.start w
 go_enter Tryz.func197, Tryz.ntmps197
 exact walk3
theorem r6Top_nn (neg : Bool) (n d t : ByteArray) (ee c : Int) (a b : Nat) (w : World) (ha : a ≤ 131072) (hb : b ≤ 131072) (he1 : -1048576 ≤ ee) (he2 : ee ≤ 1048576) (f_n : n.toList.isEmpty = false) (f_n' : ¬ (n.toList = [])) (cA : CK_ 203 #[.string n] (.int .i64 (a : Nat))) (cB : CK_ 203 #[.string d] (.int .i64 (b : Nat))) (q0 : decide (b ≤ a) = false) (cS : CK_ 224 #[.string n, .int .i64 (-((a : Int) - (b : Int)))] (.string t)) (cC : CK_ 57 #[.string t, .string d] (.int .i64 c)) (q1 : decide (0 ≤ c) = false)  :
  CR_ 197 #[.agg (exC neg n d ee)] w (.tuple #[.int .i64 ((a : Int) - (b : Int) - 1 + ee), .int .i64 0]) := by
 have H := Own.start w
 go_enter Tryz.func197, Tryz.ntmps197
 exact walk3
theorem r6Floor_z (neg : Bool) (n d m q r : ByteArray) (ee a T : Int) (w : World) (he1 : -1048576 ≤ ee) (he2 : ee ≤ 1048576) (ha1 : -2097152 ≤ a) (ha2 : a ≤ 2097152) (r1 : decide (a < -2097152) = false) (r2 : decide (2097152 < a) = false) (f_n : n.toList.isEmpty = true) (f_n' : n.toList = [])  :
  CR_ 130 #[.agg (exC neg n d ee), .int .i64 a] w (.tuple #[.string ⟨#[]⟩, .bool true, .int .i64 0]) := by
 have H := Own.start w
 go_enter Tryz.func130, Tryz.ntmps130
 exact walk2
theorem r6Floor_uy (neg : Bool) (n d m q r : ByteArray) (ee a T : Int) (w : World) (he1 : -1048576 ≤ ee) (he2 : ee ≤ 1048576) (ha1 : -2097152 ≤ a) (ha2 : a ≤ 2097152) (r1 : decide (a < -2097152) = false) (r2 : decide (2097152 < a) = false) (f_n : n.toList.isEmpty = false) (f_n' : ¬ (n.toList = [])) (q0 : decide (a ≤ ee) = true) (cL : CK_ 196 #[.string n, .int .i64 (ee - a)] (.tuple #[.string m, .int .i64 0])) (cD : CK_ 150 #[.string m, .string d] (.tuple #[.string q, .string r, .int .i64 0])) (f_r : r.toList.isEmpty = true) (f_r' : r.toList = [])  :
  CR_ 130 #[.agg (exC neg n d ee), .int .i64 a] w (.tuple #[.string q, .bool true, .int .i64 0]) := by
 have H := Own.start w
 go_enter Tryz.func130, Tryz.ntmps130
 exact walk3
theorem r6Floor_dy (neg : Bool) (n d m q r : ByteArray) (ee a T : Int) (w : World) (he1 : -1048576 ≤ ee) (he2 : ee ≤ 1048576) (ha1 : -2097152 ≤ a) (ha2 : a ≤ 2097152) (r1 : decide (a < -2097152) = false) (r2 : decide (2097152 < a) = false) (f_n : n.toList.isEmpty = false) (f_n' : ¬ (n.toList = [])) (q0 : decide (a ≤ ee) = false) (cT : CK_ 197 #[.agg (exC neg n d ee)] (.tuple #[.int .i64 T, .int .i64 0])) (q1 : decide (T < a) = false) (cL : CK_ 196 #[.string d, .int .i64 (a - ee)] (.tuple #[.string m, .int .i64 0])) (cD : CK_ 150 #[.string n, .string m] (.tuple #[.string q, .string r, .int .i64 0])) (f_r : r.toList.isEmpty = true) (f_r' : r.toList = [])  :
  CR_ 130 #[.agg (exC neg n d ee), .int .i64 a] w (.tuple #[.string q, .bool true, .int .i64 0]) := by
 have H := Own.start w
 go_enter Tryz.func130, Tryz.ntmps130
 exact walk3
theorem r6Floor_un (neg : Bool) (n d m q r : ByteArray) (ee a T : Int) (w : World) (he1 : -1048576 ≤ ee) (he2 : ee ≤ 1048576) (ha1 : -2097152 ≤ a) (ha2 : a ≤ 2097152) (r1 : decide (a < -2097152) = false) (r2 : decide (2097152 < a) = false) (f_n : n.toList.isEmpty = false) (f_n' : ¬ (n.toList = [])) (q0 : decide (a ≤ ee) = true) (cL : CK_ 196 #[.string n, .int .i64 (ee - a)] (.tuple #[.string m, .int .i64 0])) (cD : CK_ 150 #[.string m, .string d] (.tuple #[.string q, .string r, .int .i64 0])) (f_r : r.toList.isEmpty = false) (f_r' : ¬ (r.toList = []))  :
  CR_ 130 #[.agg (exC neg n d ee), .int .i64 a] w (.tuple #[.string q, .bool false, .int .i64 0]) := by
 have H := Own.start w
 go_enter Tryz.func130, Tryz.ntmps130
 exact walk3
theorem r6Floor_dn (neg : Bool) (n d m q r : ByteArray) (ee a T : Int) (w : World) (he1 : -1048576 ≤ ee) (he2 : ee ≤ 1048576) (ha1 : -2097152 ≤ a) (ha2 : a ≤ 2097152) (r1 : decide (a < -2097152) = false) (r2 : decide (2097152 < a) = false) (f_n : n.toList.isEmpty = false) (f_n' : ¬ (n.toList = [])) (q0 : decide (a ≤ ee) = false) (cT : CK_ 197 #[.agg (exC neg n d ee)] (.tuple #[.int .i64 T, .int .i64 0])) (q1 : decide (T < a) = false) (cL : CK_ 196 #[.string d, .int .i64 (a - ee)] (.tuple #[.string m, .int .i64 0])) (cD : CK_ 150 #[.string n, .string m] (.tuple #[.string q, .string r, .int .i64 0])) (f_r : r.toList.isEmpty = false) (f_r' : ¬ (r.toList = []))  :
  CR_ 130 #[.agg (exC neg n d ee), .int .i64 a] w (.tuple #[.string q, .bool false, .int .i64 0]) := by
 have H := Own.start w
 go_enter Tryz.func130, Tryz.ntmps130
 exact walk3
theorem r6Floor_t (neg : Bool) (n d m q r : ByteArray) (ee a T : Int) (w : World) (he1 : -1048576 ≤ ee) (he2 : ee ≤ 1048576) (ha1 : -2097152 ≤ a) (ha2 : a ≤ 2097152) (r1 : decide (a < -2097152) = false) (r2 : decide (2097152 < a) = false) (f_n : n.toList.isEmpty = false) (f_n' : ¬ (n.toList = [])) (q0 : decide (a ≤ ee) = false) (cT : CK_ 197 #[.agg (exC neg n d ee)] (.tuple #[.int .i64 T, .int .i64 0])) (q1 : decide (T < a) = true)  :
  CR_ 130 #[.agg (exC neg n d ee), .int .i64 a] w (.tuple #[.string ⟨#[]⟩, .bool false, .int .i64 0]) := by
 have H := Own.start w
 go_enter Tryz.func130, Tryz.ntmps130
 exact walk3
theorem r6May_w (neg : Bool) (n d g : ByteArray) (ee : Int) (w : World) (he1 : -1048576 ≤ ee) (he2 : ee ≤ 1048576) (r1 : decide (ee < -1048576) = false) (r2 : decide (1048576 < ee) = false) (cM : CK_ 135 #[.string n] (.bool true)) (cm : CK_ 135 #[.string d] (.bool true)) (f_n : n.toList.isEmpty = false) (f_n' : ¬ (n.toList = [])) (cO : CK_ 225 #[.string d] (.bool true)) (co : CK_ 225 #[.string n] (.bool true)) (cG : CK_ 149 #[.string n, .string d] (.string g)) (g1 : (g.toList == ([1] : List UInt8)) = true) (g1' : g.toList = [1])  :
  CR_ 207 #[.agg (exC neg n d ee)] w (.bool true) := by
 have H := Own.start w
 go_enter Tryz.func207, Tryz.ntmps207
 exact walk4
abbrev exV (neg : Bool) (n d : Nat) (e : Int) : Value := .agg (exC neg (strB n) (strB d) e)
theorem r5Low_any (n : Nat) (w : World) (hn : nb n ≤ 16384) : CR_ 131 #[.string (strB n)] w (.int .i64 (lowZ n : Nat)) :=
 (z05_Low.calls _ (strB n) _ w (low_strB n (nb n + 70) hn (Nat.le_refl _))).mono fun _ _ h => ⟨h.1, h.2.below⟩
theorem r5Len_any (n : Nat) (w : World) (hn : nb n ≤ 16384) : CR_ 203 #[.string (strB n)] w (.int .i64 (lenN n : Nat)) :=
 (z05_Len.calls _ (strB n) _ w (len_strB n 65 hn (Nat.le_refl _))).mono fun _ _ h => ⟨h.1, h.2.below⟩
theorem r5May_any (n : Nat) (w : World) (hn : nb n ≤ 16384) : CR_ 135 #[.string (strB n)] w (.bool true) :=
 (z05_May.calls (strB n) _ w (may_strB n hn)).mono fun _ _ h => ⟨h.1, h.2.below⟩
theorem r5At_any (n i : Nat) (w : World) (hn : nb n ≤ 16384) (hi : i ≤ 16384) : CR_ 136 #[.string (strB n), .int .i64 i] w (.int .i64 (byt n i : Nat)) :=
 (z05_at.calls (strB n) i _ w (at_strB n i (by unfold Fine; omega) (by omega))).mono fun _ _ h => ⟨h.1, h.2.below⟩
theorem nb_add (a b m : Nat) (ha : nb a ≤ m) (hb : nb b ≤ m) : nb (a + b) ≤ m + 1 := by
 have h2 := (nb_le a m).1 ha
 have h3 := (nb_le b m).1 hb
 refine (nb_le _ _).2 ?_
 rw [pow_succ256]
 generalize 256 ^ m = x at *
 omega
theorem r5Add_any (a b : Nat) (w : World) (ha : nb a ≤ 16300) (hb : nb b ≤ 16300) : CR_ 133 #[.string (strB a), .string (strB b)] w (.tuple #[.string (strB (a + b)), .int .i64 0]) := by
 refine z05_Add.calls (2 * (nb a + nb b) + 16) (strB a) (strB b) _ _ w ?_
 have h1 : nb (a + b) ≤ 16384 := Nat.le_trans (nb_add a b 16300 ha hb) (by decide)
 unfold z05_Add.f z05_long.f
 rw [add_strB a b _ (by omega) (by omega) (Nat.le_refl _), Option.bind_some, size_strB, if_neg (by omega)]; rfl
theorem strE_full (v : Nat) (h : v ≠ 0) : (strB v).toList.isEmpty = false ∧ ¬ (strB v).toList = ([] : List UInt8) := by
 have h1 : ¬ (strB v).toList = ([] : List UInt8) := fun e => h ((strB_empty v).1 e)
 refine ⟨?_, h1⟩
 cases hl : (strB v).toList with
 | nil => exact absurd hl h1
 | cons a l => rfl
theorem strE_none (v : Nat) (h : v = 0) : (strB v).toList.isEmpty = true ∧ (strB v).toList = ([] : List UInt8) := by
 have h1 := (strB_empty v).2 h
 exact ⟨by rw [h1]; rfl, h1⟩
theorem strE_one (g : Nat) (h : g = 1) : ((strB g).toList == ([1] : List UInt8)) = true ∧ (strB g).toList = ([1] : List UInt8) := by
 have h1 := (one_list g).2 h
 exact ⟨by rw [h1]; rfl, h1⟩
theorem strE_more (g : Nat) (h : g ≠ 1) : ((strB g).toList == ([1] : List UInt8)) = false ∧ ¬ (strB g).toList = ([1] : List UInt8) := by
 have h1 : ¬ (strB g).toList = ([1] : List UInt8) := fun e => h ((one_list g).1 e)
 exact ⟨by rw [beq_eq_false_iff_ne]; exact h1, h1⟩
theorem r5Left_any (a n : Nat) (w : World) (ha : nb a ≤ 16384) (hn : a = 0 ∨ lenN a + n ≤ 131072) (hn2 : n ≤ 131072) : CR_ 196 #[.string (strB a), .int .i64 (n : Int)] w (.tuple #[.string (strB (a * 2 ^ n)), .int .i64 0]) :=
 z05_Left.calls _ _ _ _ _ w (left_strB a n _ ha hn hn2 (Nat.le_refl _))
theorem r5Right_any (a n : Nat) (ha : nb a ≤ 16384) (hn : n ≤ 131072) : ∃ lost, ∀ w, CR_ 148 #[.string (strB a), .int .i64 (n : Int)] w (.tuple #[.string (strB (a / 2 ^ n)), .bool lost, .int .i64 0]) := by
 obtain ⟨lost, h⟩ := right_strB a n _ ha (by omega) (Nat.le_refl _)
 exact ⟨lost, fun w => z05_Right.calls _ _ _ _ _ _ w h⟩
theorem r5Div_any (a b : Nat) (w : World) (hb0 : b ≠ 0) (ha : nb a ≤ 16384) (hb : nb b ≤ 16384) : CR_ 150 #[.string (strB a), .string (strB b)] w (.tuple #[.string (strB (a / b)), .string (strB (a % b)), .int .i64 0]) :=
 z05_Div.calls _ _ _ _ _ _ w (div_strB a b _ hb0 ha hb (Nat.le_refl _))
theorem r5Gcd_any (a b : Nat) (w : World) (ha : nb a ≤ 16384) (hb : nb b ≤ 16384) : CR_ 149 #[.string (strB a), .string (strB b)] w (.string (strB (Nat.gcd a b))) :=
 z05_Gcd.calls _ _ _ _ w (gcd_strB a b _ ha hb (Nat.le_refl _))
theorem r5Mul_any (a b : Nat) (w : World) (hs : nb a + nb b ≤ 16384) : CR_ 171 #[.string (strB a), .string (strB b)] w (.tuple #[.string (strB (a * b)), .int .i64 0]) :=
 z05_Mul.calls _ _ _ _ _ w (mul_strB a b _ hs (Nat.le_refl _))
theorem r5Cmp_any (a b : Nat) (w : World) : CR_ 57 #[.string (strB a), .string (strB b)] w (.int .i64 (cmpN a b)) :=
 (z05_Cmp.calls _ _ _ w (cmp_strB a b)).mono fun _ _ h => ⟨h.1, h.2.below⟩
theorem r6Make_any (neg : Bool) (n d : Nat) (e : Int) (w : World) (hn : nb n ≤ 16384) (hd : nb d ≤ 16384) (hd0 : d ≠ 0) (he : -700000 ≤ e) (he2 : e ≤ 700000) :
  CR_ 63 #[.bool neg, .string (strB n), .string (strB d), .int .i64 e] w (.tuple #[exV (negX' neg n) (numX n d) (denX n d) (expX n d e), .int .i64 0]) := by
 have cM := fun w => r5May_any n w hn
 have cm := fun w => r5May_any d w hd
 obtain ⟨fd, fd'⟩ := strE_full d hd0
 have l1 := low_le n hn
 have l2 := low_le d hd
 by_cases h0 : n = 0
 ·obtain ⟨fn, fn'⟩ := strE_none n h0
  have h := r6Make_z neg (strB n) (strB d) e w (by omega) (by omega) (decide_eq_false (by omega)) (decide_eq_false (by omega)) cM cm fd fd' fn fn'
  have e1 : exV (negX' neg n) (numX n d) (denX n d) (expX n d e) = .agg (exC false ⟨#[]⟩ ⟨#[1]⟩ 0) := by
   show Value.agg (exC _ (strB _) (strB _) _) = _
   unfold negX' numX denX expX
   rw [if_pos h0, if_pos h0, if_pos h0, if_pos h0, strB_one, strB_zero]
  rw [e1]; exact h
 obtain ⟨fn, fn'⟩ := strE_full n h0
 obtain ⟨s1, cR⟩ := r5Right_any n (lowZ n) hn l1
 obtain ⟨s2, cr⟩ := r5Right_any d (lowZ d) hd l2
 have cA := fun w => r5Low_any n w hn
 have ca := fun w => r5Low_any d w hd
 have b1 := nb_div n (2 ^ lowZ n) hn
 have b2 := nb_div d (2 ^ lowZ d) hd
 have cG := fun w => r5Gcd_any (n / 2 ^ lowZ n) (d / 2 ^ lowZ d) w b1 b2
 have hN : negX' neg n = neg := by unfold negX'; rw [if_neg h0]
 have hE : expX n d e = e + (lowZ n : Int) - (lowZ d : Int) := by unfold expX; rw [if_neg h0]
 have hX : numX n d = n / 2 ^ lowZ n / gcdX n d := by unfold numX; rw [if_neg h0]
 have hD : denX n d = d / 2 ^ lowZ d / gcdX n d := by unfold denX; rw [if_neg h0]
 have hgx : Nat.gcd (n / 2 ^ lowZ n) (d / 2 ^ lowZ d) = gcdX n d := rfl
 have hgp := gcdX_pos n d h0
 simp only [hgx] at cG
 rw [hN, hE]
 by_cases h1 : gcdX n d = 1
 ·obtain ⟨g1, g1'⟩ := strE_one (gcdX n d) h1
  rw [hX, hD, h1, Nat.div_one, Nat.div_one]
  exact r6Make_1 neg s1 s2 _ _ _ _ _ e (lowZ n) (lowZ d) w l1 l2 (by omega) (by omega) (decide_eq_false (by omega)) (decide_eq_false (by omega)) (decide_eq_false (by omega)) (decide_eq_false (by omega)) cM cm fd fd' fn fn' cA ca cR cr cG g1 g1'
 ·obtain ⟨g1, g1'⟩ := strE_more (gcdX n d) h1
  have hgb : nb (gcdX n d) ≤ 16384 := by
   have := Nat.gcd_le_left (d / 2 ^ lowZ d) (Nat.pos_of_ne_zero (low_split n h0).2.2)
   exact Nat.le_trans (nb_mono _ _ this) b1
  have cD := fun w => r5Div_any (n / 2 ^ lowZ n) (gcdX n d) w (by omega) b1 hgb
  have cd := fun w => r5Div_any (d / 2 ^ lowZ d) (gcdX n d) w (by omega) b2 hgb
  rw [hX, hD]
  exact r6Make_d neg s1 s2 _ _ _ _ _ _ _ _ _ e (lowZ n) (lowZ d) w l1 l2 (by omega) (by omega) (decide_eq_false (by omega)) (decide_eq_false (by omega)) (decide_eq_false (by omega)) (decide_eq_false (by omega)) cM cm fd fd' fn fn' cA ca cR cr cG cD cd g1 g1'
theorem r6Top_any (neg : Bool) (n d : Nat) (e : Int) (w : World) (h0 : n ≠ 0) (hn : nb n ≤ 16384) (hd : nb d ≤ 16384) (he : -1048576 ≤ e) (he2 : e ≤ 1048576) :
  CR_ 197 #[exV neg n d e] w (.tuple #[.int .i64 (topX n d + e), .int .i64 0]) := by
 have l1 := len_nb n hn
 have l2 := len_nb d hd
 obtain ⟨fn, fn'⟩ := strE_full n h0
 have cA := fun w => r5Len_any n w hn
 have cB := fun w => r5Len_any d w hd
 unfold topX
 by_cases h : lenN d ≤ lenN n
 ·rw [if_pos h]
  have cS : ∀ w, CR_ 224 #[.string (strB d), .int .i64 ((lenN n : Int) - (lenN d : Int))] w (.string (strB (d * 2 ^ (lenN n - lenN d)))) := by
   rw [show (lenN n : Int) - (lenN d : Int) = ((lenN n - lenN d : Nat) : Int) by omega]
   exact fun w => r6shifted_w _ _ _ _ w fun w => r5Left_any d (lenN n - lenN d) w hd (Or.inr (by omega)) (by omega)
  have cC := fun w => r5Cmp_any n (d * 2 ^ (lenN n - lenN d)) w
  by_cases h2 : d * 2 ^ (lenN n - lenN d) ≤ n
  ·rw [if_pos h2]
   have k := r6Top_yy neg _ _ _ e _ (lenN n) (lenN d) w l1 l2 he he2 fn fn' cA cB (decide_eq_true h) cS cC (decide_eq_true ((cmp_ge _ _).2 h2))
   rw [show (lenN n : Int) - (lenN d : Int) = ((lenN n - lenN d : Nat) : Int) by omega] at k
   exact k
  ·rw [if_neg h2]
   have k := r6Top_yn neg _ _ _ e _ (lenN n) (lenN d) w l1 l2 he he2 fn fn' cA cB (decide_eq_true h) cS cC (decide_eq_false (fun h3 => h2 ((cmp_ge _ _).1 h3)))
   rw [show (lenN n : Int) - (lenN d : Int) = ((lenN n - lenN d : Nat) : Int) by omega] at k
   exact k
 ·rw [if_neg h]
  have cS : ∀ w, CR_ 224 #[.string (strB n), .int .i64 (-((lenN n : Int) - (lenN d : Int)))] w (.string (strB (n * 2 ^ (lenN d - lenN n)))) := by
   rw [show -((lenN n : Int) - (lenN d : Int)) = ((lenN d - lenN n : Nat) : Int) by omega]
   exact fun w => r6shifted_w _ _ _ _ w fun w => r5Left_any n (lenN d - lenN n) w hn (Or.inr (by omega)) (by omega)
  have cC := fun w => r5Cmp_any (n * 2 ^ (lenN d - lenN n)) d w
  by_cases h2 : d ≤ n * 2 ^ (lenN d - lenN n)
  ·rw [if_pos h2]
   have k := r6Top_ny neg _ _ _ e _ (lenN n) (lenN d) w l1 l2 he he2 fn fn' cA cB (decide_eq_false h) cS cC (decide_eq_true ((cmp_ge _ _).2 h2))
   rw [show (lenN n : Int) - (lenN d : Int) = -((lenN d - lenN n : Nat) : Int) by omega] at k
   exact k
  ·rw [if_neg h2]
   have k := r6Top_nn neg _ _ _ e _ (lenN n) (lenN d) w l1 l2 he he2 fn fn' cA cB (decide_eq_false h) cS cC (decide_eq_false (fun h3 => h2 ((cmp_ge _ _).1 h3)))
   rw [show (lenN n : Int) - (lenN d : Int) = -((lenN d - lenN n : Nat) : Int) by omega] at k
   exact k
theorem r6Floor_any (neg : Bool) (n d : Nat) (e a : Int) (w : World) (hn : nb n ≤ 16384) (hd : nb d ≤ 16384) (hd0 : d ≠ 0) (he : -1048576 ≤ e) (he2 : e ≤ 1048576) (ha : -2097152 ≤ a) (ha2 : a ≤ 2097152) (hl : n = 0 ∨ e < a ∨ (lenN n : Int) + (e - a) ≤ 131072) :
  CR_ 130 #[exV neg n d e, .int .i64 a] w (.tuple #[.string (strB (ratFl n d e a)), .bool (ratEx n d e a), .int .i64 0]) := by
 have l1 := len_nb n hn
 have l2 := len_nb d hd
 have r1 : decide (a < -2097152) = false := decide_eq_false (by omega)
 have r2 : decide (2097152 < a) = false := decide_eq_false (by omega)
 by_cases h0 : n = 0
 ·obtain ⟨fn, fn'⟩ := strE_none n h0
  have h := r6Floor_z neg (strB n) (strB d) ⟨#[]⟩ ⟨#[]⟩ ⟨#[]⟩ e a 0 w he he2 ha ha2 r1 r2 fn fn'
  have e1 : ratFl n d e a = 0 ∧ ratEx n d e a = true := by
   unfold ratFl ratEx
   rw [h0, Nat.zero_mul, Nat.zero_div, Nat.zero_mod]; exact ⟨rfl, rfl⟩
  rw [e1.1, e1.2, strB_zero]; exact h
 obtain ⟨fn, fn'⟩ := strE_full n h0
 by_cases hea : a ≤ e
 ·obtain ⟨j, hj⟩ : ∃ j : Nat, e - a = j := ⟨(e - a).toNat, by omega⟩
  have hlj : lenN n + j ≤ 131072 := by rcases hl with h | h | h; exact absurd h h0; omega; omega
  have hb : nb (n * 2 ^ j) ≤ 16384 := nb_len _ (by rw [lenN_mul_pow n j h0]; exact hlj)
  have cL := fun w => r5Left_any n j w hn (Or.inr hlj) (by omega)
  rw [← hj] at cL
  have cD := fun w => r5Div_any (n * 2 ^ j) d w hd0 hb hd
  have e1 : ratFl n d e a = n * 2 ^ j / d ∧ ratEx n d e a = decide (n * 2 ^ j % d = 0) := by
   unfold ratFl ratEx
   rw [show (e - a).toNat = j by omega, show (a - e).toNat = 0 by omega, Nat.pow_zero, Nat.mul_one]; exact ⟨rfl, rfl⟩
  rw [e1.1, e1.2]
  by_cases hr : n * 2 ^ j % d = 0
  ·obtain ⟨fr, fr'⟩ := strE_none _ hr
   rw [decide_eq_true hr]
   exact r6Floor_uy neg _ _ _ _ _ e a 0 w he he2 ha ha2 r1 r2 fn fn' (decide_eq_true hea) cL cD fr fr'
  ·obtain ⟨fr, fr'⟩ := strE_full _ hr
   rw [decide_eq_false hr]
   exact r6Floor_un neg _ _ _ _ _ e a 0 w he he2 ha ha2 r1 r2 fn fn' (decide_eq_true hea) cL cD fr fr'
 have cT := fun w => r6Top_any neg n d e w h0 hn hd he he2
 have hT := rat_top n d e h0 (Nat.pos_of_ne_zero hd0)
 by_cases ht : topX n d + e < a
 ·have hz : ratFl n d e a = 0 := hT.high a ht
  have hx : ratEx n d e a = false := by
   cases hc : ratEx n d e a
   ·rfl
   ·exfalso
    have h1 : n * 2 ^ (e - a).toNat % (d * 2 ^ (a - e).toNat) = 0 := of_decide_eq_true hc
    have h2 : n * 2 ^ (e - a).toNat / (d * 2 ^ (a - e).toNat) = 0 := hz
    have h3 := Nat.div_add_mod (n * 2 ^ (e - a).toNat) (d * 2 ^ (a - e).toNat)
    rw [h1, h2] at h3
    have h4 := Nat.mul_ne_zero h0 (Nat.ne_of_gt (two_pos (e - a).toNat))
    omega
  rw [hz, hx, strB_zero]
  exact r6Floor_t neg _ _ ⟨#[]⟩ ⟨#[]⟩ ⟨#[]⟩ e a _ w he he2 ha ha2 r1 r2 fn fn' (decide_eq_false hea) cT (decide_eq_true ht)
 ·obtain ⟨j, hj⟩ : ∃ j : Nat, a - e = j := ⟨(a - e).toNat, by omega⟩
  have hlj : lenN d + j ≤ 131072 := by have := topX_le n d; omega
  have hb : nb (d * 2 ^ j) ≤ 16384 := nb_len _ (by rw [lenN_mul_pow d j hd0]; exact hlj)
  have cL := fun w => r5Left_any d j w hd (Or.inr hlj) (by omega)
  rw [← hj] at cL
  have cD := fun w => r5Div_any n (d * 2 ^ j) w (Nat.mul_ne_zero hd0 (Nat.ne_of_gt (two_pos j))) hn hb
  have e1 : ratFl n d e a = n / (d * 2 ^ j) ∧ ratEx n d e a = decide (n % (d * 2 ^ j) = 0) := by
   unfold ratFl ratEx
   rw [show (a - e).toNat = j by omega, show (e - a).toNat = 0 by omega, Nat.pow_zero, Nat.mul_one]; exact ⟨rfl, rfl⟩
  rw [e1.1, e1.2]
  by_cases hr : n % (d * 2 ^ j) = 0
  ·obtain ⟨fr, fr'⟩ := strE_none _ hr
   rw [decide_eq_true hr]
   exact r6Floor_dy neg _ _ _ _ _ e a _ w he he2 ha ha2 r1 r2 fn fn' (decide_eq_false hea) cT (decide_eq_false ht) cL cD fr fr'
  ·obtain ⟨fr, fr'⟩ := strE_full _ hr
   rw [decide_eq_false hr]
   exact r6Floor_dn neg _ _ _ _ _ e a _ w he he2 ha ha2 r1 r2 fn fn' (decide_eq_false hea) cT (decide_eq_false ht) cL cD fr fr'
theorem r6Mul_any (x y : Bool) (n1 d1 n2 d2 : Nat) (e1 e2 : Int) (w : World) (h1 : n1 ≠ 0) (h2 : n2 ≠ 0) (k1 : d1 ≠ 0) (k2 : d2 ≠ 0) (b1 : nb n1 ≤ 4000) (b2 : nb n2 ≤ 4000) (b3 : nb d1 ≤ 4000) (b4 : nb d2 ≤ 4000) (q1 : -300000 ≤ e1) (q2 : e1 ≤ 300000) (q3 : -300000 ≤ e2) (q4 : e2 ≤ 300000) :
  CR_ 118 #[exV x n1 d1 e1, exV y n2 d2 e2] w (.tuple #[exV (negX' (!(x == y)) (n1 * n2)) (numX (n1 * n2) (d1 * d2)) (denX (n1 * n2) (d1 * d2)) (expX (n1 * n2) (d1 * d2) (e1 + e2)), .int .i64 0]) := by
 obtain ⟨f1, f1'⟩ := strE_full n1 h1
 obtain ⟨f2, f2'⟩ := strE_full n2 h2
 have cA := fun w => r5Mul_any n1 n2 w (by omega)
 have cB := fun w => r5Mul_any d1 d2 w (by omega)
 have z1 : nb (n1 * n2) ≤ 8000 := Nat.le_trans (nb_mul _ _) (by omega)
 have z2 : nb (d1 * d2) ≤ 8000 := Nat.le_trans (nb_mul _ _) (by omega)
 have cK := fun w => r6Make_any (!(x == y)) (n1 * n2) (d1 * d2) (e1 + e2) w (by omega) (by omega) (Nat.mul_ne_zero (by assumption) (by assumption)) (by omega) (by omega)
 exact r6Mul_w x y _ _ _ _ _ _ _ _ _ e1 e2 _ 0 w (by omega) (by omega) (by omega) (by omega) (decide_eq_false (by omega)) (decide_eq_false (by omega)) f1 f1' f2 f2' cA cB cK
theorem sigN_113 (f a : Nat) (hf : fitsB f a = true) : sigN f a < 2 ^ 113 := by
 have h4 := ((fits_iff f a).1 hf).1
 have hp := pF_113 f
 rcases cls_sort f a with c | c | c | c
 ·unfold sigN; rw [if_neg (by omega), if_neg (by omega)]; exact two_pos 113
 ·unfold sigN; rw [if_neg (by omega), if_neg (by omega)]; exact two_pos 113
 ·unfold sigN; rw [if_neg (by omega), if_neg (by omega)]; exact two_pos 113
 ·have := (can_of f a hf c).1.lt
  exact Nat.lt_of_lt_of_le this (Nat.pow_le_pow_right (by decide) hp)
theorem xpN_bound (f a : Nat) (hf : fitsB f a = true) : -40000 ≤ xpN f a ∧ xpN f a ≤ 40000 := by
 have h4 := ((fits_iff f a).1 hf).1
 obtain ⟨h1, h2, h3, h5, h6, h7, h8, h9⟩ := formK f h4
 rcases cls_sort f a with c | c | c | c
 ·unfold xpN; rw [if_neg (by omega), if_neg (by omega)]; omega
 ·unfold xpN; rw [if_neg (by omega), if_neg (by omega)]; omega
 ·unfold xpN; rw [if_neg (by omega), if_neg (by omega)]; omega
 ·have hc := (can_of f a hf c).1
  have := hc.ge; have := hc.le; omega
theorem below_fits (f a : Nat) (h : fitsB f a = true) : a < 2 ^ (64 * 2) := by
 obtain ⟨h4, hb⟩ := (fits_iff f a).1 h
 exact Nat.lt_of_lt_of_le hb (Nat.pow_le_pow_right (by decide) (by have := (formB f h4).2.2.2.1; omega))
theorem canon_flag (b : Bool) : (cond b (16 : Int) 0) = ((cond b 16 0 : Nat) : Int) := by cases b <;> rfl
theorem r8Value_w (f b c s fr : Nat) (x : Int) (neg : Bool) (n : ByteArray) (neg2 : Bool) (n2 d2 : ByteArray) (e2 er : Int) (w : World) (cU : CK_ 169 #[.int .u8 f, BV b] (PV c s x fr)) (q8 : ((c : Int) == 8) = false) (q9 : ((c : Int) == 9) = false) (q0 : ((c : Int) == 0) = false) (q7 : ((c : Int) == 7) = false) (cS : CK_ 50 #[.int .u8 f, BV b] (.bool neg)) (cO : CK_ 170 #[W s] (.string n)) (cM : CK_ 63 #[.bool neg, .string n, .string ⟨#[1]⟩, .int .i64 x] (.tuple #[.agg (exC neg2 n2 d2 e2), .int .i64 er])) :
  CR_ 88 #[.int .u8 f, BV b] w (.tuple #[.agg (exC neg2 n2 d2 e2), .int .i64 0]) := by
 have H := Own.start w
 go_enter Tryz.func88, Tryz.ntmps88
 exact walk2
theorem sig_nb (f b : Nat) (h : fitsB f b = true) : nb (sigN f b) ≤ 15 := by
 refine (nb_le _ _).2 (Nat.lt_of_lt_of_le (sigN_113 f b h) ?_)
 rw [pow256]; exact Nat.pow_le_pow_right (by decide) (by decide)
theorem r8Value_any (f b : Nat) (w : World) (h : fitsB f b = true) (h8 : nanB (clsN f b) = false) (hi : infB (clsN f b) = false) :
  CR_ 88 #[.int .u8 f, BV b] w (.tuple #[exV (negX' (negN f b) (sigN f b)) (numX (sigN f b) 1) (denX (sigN f b) 1) (expX (sigN f b) 1 (xpN f b)), .int .i64 0]) := by
 have hf := ((fits_iff f b).1 h).1
 have hb := below_fits f b h
 obtain ⟨x1, x2⟩ := xpN_bound f b h
 have hs := sig_nb f b h
 have c8 : ¬ 8 ≤ clsN f b := by unfold nanB at h8; exact of_decide_eq_false h8
 have c07 : clsN f b ≠ 0 ∧ clsN f b ≠ 7 := by unfold infB at hi; simpa using hi
 have cS := fun w => r8Sign_any f b w hb
 rw [h, Bool.true_and] at cS
 have cM := fun w => r6Make_any (negN f b) (sigN f b) 1 (xpN f b) w (by omega) (by decide) (by decide) (by omega) (by omega)
 rw [strB_one] at cM
 exact r8Value_w f b (clsN f b) (sigN f b) (frN f b) (xpN f b) (negN f b) (strB (sigN f b)) _ _ _ _ _ w (fun w => r8Unpack_any f b w hf hb)
  (int_eq_false _ 8 (by omega)) (int_eq_false _ 9 (by omega)) (int_eq_false _ 0 c07.1) (int_eq_false _ 7 c07.2) cS (fun w => r5OfWide_any (sigN f b) w (lt_top_bits _ (Nat.lt_of_lt_of_le (sigN_113 f b h) (by decide)))) cM
theorem limbN_up8 (V q r : Nat) (hV : V < 2 ^ (64 * q + r)) (hr : r ≤ 64) : limbN V q < 2 ^ r := by
 unfold limbN
 refine Nat.lt_of_le_of_lt (Nat.mod_le _ _) ?_
 rw [Nat.div_lt_iff_lt_mul (pw_pos q), ← Nat.pow_add, Nat.add_comm]; exact hV
theorem set_byte (V b k q r : Nat) (X : Int) (hX : X = ((b * 2 ^ (8 * r) : Nat) : Int)) (hk : k = 8 * q + r) (hr : r < 8) (hq : q < 6) (hb : b < 256) (hV : V < 256 ^ k) :
  setRow (limbs V) q (#[.int .u64 (Go.bits .or .u64 (limb V q) X)] : Array Value).toList = limbs (V + b * 256 ^ k) := by
 subst hX
 have hV' : V < 2 ^ (64 * q + 8 * r) := by rw [pow256, hk] at hV; rw [show 64 * q + 8 * r = 8 * (8 * q + r) by omega]; exact hV
 have h1 := limbN_up8 V q (8 * r) hV' (by omega)
 have hp : 2 ^ (8 * r) * 256 ≤ 18446744073709551616 := by rw [show (256 : Nat) = 2 ^ 8 from rfl, ← Nat.pow_add, B64]; exact Nat.pow_le_pow_right (by decide) (by omega)
 have h2 : b * 2 ^ (8 * r) + 2 ^ (8 * r) ≤ 256 * 2 ^ (8 * r) := by
  have := Nat.mul_le_mul_right (2 ^ (8 * r)) (show b + 1 ≤ 256 by omega)
  rw [Nat.add_mul, Nat.one_mul] at this; exact this
 have e1 : Go.bits .or .u64 (limb V q) ((b * 2 ^ (8 * r) : Nat) : Int) = ((limbN V q + b * 2 ^ (8 * r) : Nat) : Int) := by
  unfold limb
  rw [u64_or_nat _ _ (limbN_lt V q) (by omega)]
  congr 1
  have := Nat.two_pow_add_eq_or_of_lt h1 b
  rw [Nat.or_comm, Nat.mul_comm b, ← this, Nat.add_comm]
 rw [e1]
 show (limbs V).setIfInBounds q _ = _
 have hlow : V < 2 ^ (64 * (q + 1)) := Nat.lt_of_lt_of_le hV' (Nat.pow_le_pow_right (by decide) (by omega))
 have hVs : V = V % 2 ^ (64 * q) + limbN V q * 2 ^ (64 * q) := by rw [← mod_low, Nat.mod_eq_of_lt hlow]
 have h3 := limbs_put (V % 2 ^ (64 * q)) (limbN V q + b * 2 ^ (8 * r)) q hq (Nat.mod_lt _ (pw_pos q)) (by omega)
 have e2 : V % 2 ^ (64 * q) + (limbN V q + b * 2 ^ (8 * r)) * 2 ^ (64 * q) = V + b * 256 ^ k := by
  rw [Nat.add_mul, ← Nat.add_assoc, ← hVs, pow256, hk, Nat.mul_assoc, ← Nat.pow_add, show 8 * r + 64 * q = 8 * (8 * q + r) by omega]
 rw [← e2, ← h3]
 have e3 : (limbs V).setIfInBounds q (.int .u64 ((limbN V q + b * 2 ^ (8 * r) : Nat) : Int)) = (limbs (V % 2 ^ (64 * q))).setIfInBounds q (.int .u64 ((limbN V q + b * 2 ^ (8 * r) : Nat) : Int)) := by
  apply Array.ext_getElem?
  intro j
  rw [Array.getElem?_setIfInBounds, Array.getElem?_setIfInBounds, limbs_size, limbs_size]
  by_cases hj : q = j
  ·rw [if_pos hj, if_pos hj]
  ·rw [if_neg hj, if_neg hj]
   by_cases h6 : j < 6
   ·rw [limbs_get _ j h6, limbs_get _ j h6]
    unfold limb
    rcases Nat.lt_or_ge j q with h7 | h7
    ·rw [limbN_mod V j q h7]
    ·have h8 : limbN V j = 0 := by
      unfold limbN; rw [Nat.div_eq_of_lt (Nat.lt_of_lt_of_le hlow (Nat.pow_le_pow_right (by decide) (by omega)))]
     have h9 : limbN (V % 2 ^ (64 * q)) j = 0 := by
      unfold limbN; rw [Nat.div_eq_of_lt (Nat.lt_of_lt_of_le (Nat.mod_lt _ (pw_pos q)) (Nat.pow_le_pow_right (by decide) (by omega)))]
     rw [h8, h9]
   ·rw [Array.getElem?_eq_none (by rw [limbs_size]; omega), Array.getElem?_eq_none (by rw [limbs_size]; omega)]
 exact e3
theorem r5ToWide_any (n : Nat) (w0 : World) (hn : nb n ≤ 48) :
  CR_ 59 #[.string (strB n)] w0 (.tuple #[W n, .bool true]) := by
 have H := Own.start w0
 have cM := fun w => r5May_any n w (by omega)
 have hsz := size_strB n
 have HN := Lib.hid hn
 have HF := Lib.hid (nb_lt n)
 have hszi : (((strB n).size : Nat) : Int) = (nb n : Nat) := by rw [hsz]
 obtain ⟨m, hm⟩ : ∃ m, nb n = m := ⟨_, rfl⟩
 rw [hm] at hsz hszi hn HF
 have hmi : (m : Int) ≤ 48 := by omega
 have HM := Lib.hid hm
 clear hm hn
 go_enter Tryz.func59, Tryz.ntmps59
 go_wp2_with (first
  | ((with_reducible refine g12_ rfl rfl ?_); refine H.xa ?_; (intro gr w H; simp only [Act.put, q1_, q2_, q3_]))
  | ((with_reducible refine g4_ rfl rfl ?_); refine H.xa ?_; (intro gs w H; simp only [Act.put, q1_, q2_, q3_]))
  | ((with_reducible refine g0_ rfl ?_); refine H.xb ?_; (intro g w H; simp only [Act.put, q1_, q2_, q3_]))
  | ((with_reducible refine g1_ rfl ?_); refine H.xa ?_; (intro g w H; simp only [Act.put, q1_, q2_, q3_]))
  | ((with_reducible refine g2_ rfl ?_); (first | refine H.xl ?_ | refine H.xm ?_); simp only [Act.put, q1_, q2_, q3_])
  | ((with_reducible refine g3_ rfl ?_); (first | refine H.xs ?_ | refine H.xt ?_); (intro w H; simp only [Act.put]))
  | (go_at_call 135; (with_reducible refine H.kc (cM _) ?_; clear H; intro w H))
  | (go_at_call 136; (with_reducible refine H.kc (cA _) ?_; clear H; intro w H))
  )
 go_loopw [5] (fun iv wr => ∃ (k : Nat), k ≤ m ∧ iv = .int .i64 k ∧ Own w0 wr [(gs, 60, limbs (n % 256 ^ k)), (gr, 60, limbs 0)]) (fun i _ => m - (intOf i).toNat)
 case atStart => exact ⟨0, by omega, rfl, by rw [Nat.pow_zero, Nat.mod_one]; exact H⟩
 case round =>
  clear H
  obtain ⟨k, hk, rfl, H⟩ := hrel
  by_cases hlt : k < m
  ·have hlti : (k : Int) < (m : Int) := by omega
   have hk48 : k < 48 := by omega
   obtain ⟨q, hq⟩ : ∃ q : Nat, k / 8 = q := ⟨_, rfl⟩
   obtain ⟨r, hr⟩ : ∃ r : Nat, k % 8 = r := ⟨_, rfl⟩
   have hq6 : q < 6 := by omega
   have hq6i : (q : Int) < 6 := by omega
   have hr8 : r < 8 := by omega
   have HK := Lib.hid (show k = 8 * q + r by omega)
   have t1 : IntKind.i64.wrap ((k : Int).tdiv 8) = (q : Int) := by rw [Int.tdiv_eq_ediv_of_nonneg (by omega), show (k : Int) / 8 = (q : Int) by omega]; exact IntWalk.i64_in _ (by omega)
   have t1' : (k : Int) / 8 = (q : Int) := by omega
   have t2 : (k : Int).tmod 8 = (r : Int) := by rw [Int.tmod_eq_emod_of_nonneg (by omega)]; omega
   have t2' : (k : Int) % 8 = (r : Int) := by omega
   have t3 : IntKind.u64.wrap (8 * (r : Int)) = 8 * (r : Int) := by rw [IntKind.wrap_u64]; omega
   have t3b : IntKind.i64.wrap (8 * (r : Int)) = 8 * (r : Int) := IntWalk.i64_in _ (by omega)
   have t4 : min (8 * (r : Int)).toNat 64 = 8 * r := by omega
   have tq : IntKind.i64.wrap (q : Int) = (q : Int) := IntWalk.i64_in _ (by omega)
   have tr : IntKind.i64.wrap (r : Int) = (r : Int) := IntWalk.i64_in _ (by omega)
   have hq0 : (0 : Int) ≤ (q : Int) := by omega
   have hbl := byt_lt n k
   have HB := Lib.hid (mod_byte n k)
   have HL := Lib.hid (Nat.mod_lt n (pos256 k))
   have cA := fun w => r5At_any n k w (by have := HN.out; omega) (by omega)
   obtain ⟨b, hb⟩ : ∃ b, byt n k = b := ⟨_, rfl⟩
   rw [hb] at cA hbl HB
   obtain ⟨V, hV⟩ : ∃ V, n % 256 ^ k = V := ⟨_, rfl⟩
   rw [hV] at H HB HL
   have hbi : IntKind.u64.wrap (b : Int) = (b : Int) := by rw [IntKind.wrap_u64]; omega
   have hp : b * 2 ^ (8 * r) < 18446744073709551616 := by
    have h1 : 2 ^ (8 * r) ≤ 2 ^ 56 := Nat.pow_le_pow_right (by decide) (by omega)
    have h2 : b * 2 ^ (8 * r) ≤ 255 * 2 ^ 56 := Nat.mul_le_mul (by omega) h1
    omega
   have HX := Lib.hid (show IntKind.u64.wrap ((b : Int) * 2 ^ (8 * r)) = ((b * 2 ^ (8 * r) : Nat) : Int) by
    rw [show (b : Int) * 2 ^ (8 * r) = ((b * 2 ^ (8 * r) : Nat) : Int) by simp]
    generalize b * 2 ^ (8 * r) = x at *
    rw [IntKind.wrap_u64]; omega)
   have G : (limbs V)[q]? = some (.int .u64 (limb V q)) := limbs_get V q hq6
   clear hq hr hb hV hp cM
   go_wp2_with (first
  | ((with_reducible refine g12_ rfl rfl ?_); refine H.xa ?_; (intro gr w H; simp only [Act.put, q1_, q2_, q3_]))
  | ((with_reducible refine g4_ rfl rfl ?_); refine H.xa ?_; (intro gs w H; simp only [Act.put, q1_, q2_, q3_]))
  | ((with_reducible refine g7_ rfl ?_); refine H.xm ?_ (hv := by first | with_reducible exact G); simp only [Act.put, q1_, q2_, q3_])
  | ((with_reducible refine g0_ rfl ?_); refine H.xb ?_; (intro g w H; simp only [Act.put, q1_, q2_, q3_]))
  | ((with_reducible refine g1_ rfl ?_); refine H.xa ?_; (intro g w H; simp only [Act.put, q1_, q2_, q3_]))
  | ((with_reducible refine g2_ rfl ?_); (first | refine H.xl ?_ | refine H.xm ?_); simp only [Act.put, q1_, q2_, q3_])
  | ((with_reducible refine g3_ rfl ?_); (first | refine H.xs ?_ | refine H.xt ?_); (intro w H; simp only [Act.put]))
  | ((with_reducible show Code.wp _ (.region 7 _ true) _ _ _); refine H.heldSub rfl (List.Sublist.cons _ (List.Sublist.refl _)) ?_; intro H; refine H.zr 0 ?_; (try simp only [Act.put, q1_, q2_, q3_]); (try simp only [q4_, q5_, q6_]); refine H.zr 1 ?_; (try simp only [Act.put, q1_, q2_, q3_]); (try simp only [q4_, q5_, q6_]); refine H.zr 2 ?_; (try simp only [Act.put, q1_, q2_, q3_]); (try simp only [q4_, q5_, q6_]); refine H.zr 3 ?_; (try simp only [Act.put, q1_, q2_, q3_]); (try simp only [q4_, q5_, q6_]); refine H.zr 4 ?_; (try simp only [Act.put, q1_, q2_, q3_]); (try simp only [q4_, q5_, q6_]); refine H.zr 6 ?_; (try simp only [Act.put, q1_, q2_, q3_]); (try simp only [q4_, q5_, q6_]); refine H.zr 7 ?_; (try simp only [Act.put, q1_, q2_, q3_]); (try simp only [q4_, q5_, q6_]); refine H.zr 10 ?_; (try simp only [Act.put, q1_, q2_, q3_]); (try simp only [q4_, q5_, q6_]); refine H.zr 11 ?_; (try simp only [Act.put, q1_, q2_, q3_]); (try simp only [q4_, q5_, q6_]); refine H.zr 12 ?_; (try simp only [Act.put, q1_, q2_, q3_]); (try simp only [q4_, q5_, q6_]); refine H.zr 13 ?_; (try simp only [Act.put, q1_, q2_, q3_]); (try simp only [q4_, q5_, q6_]); refine held2 5 8 ?_ ?_; ((first | refine H.ym ?_ (hv := by first | with_reducible exact G) | refine H.yl ?_ | refine H.ym ?_); refine H.nx ?_; (try simp only [Act.put, q1_, q2_, q3_]); (try simp only [q4_, q5_, q6_]); refine held1 8 ?_; unfold Oper.wp; go_simp; (first | ((first | go_at_call 135 | go_at_call 136); (with_reducible first | refine H.kc (cM _) ?_ | refine H.kc (cA _) ?_); clear H; intro w H)); refine H.nx ?_; (try simp only [Act.put, q1_, q2_, q3_]); (try simp only [q4_, q5_, q6_]); refine H.zr 9 ?_; (try simp only [Act.put, q1_, q2_, q3_]); (try simp only [q4_, q5_, q6_]); refine H.zr 14 ?_; (try simp only [Act.put, q1_, q2_, q3_]); (try simp only [q4_, q5_, q6_]); refine H.zr 15 ?_; (try simp only [Act.put, q1_, q2_, q3_]); (try simp only [q4_, q5_, q6_]); refine H.zr 16 ?_; (try simp only [Act.put, q1_, q2_, q3_]); (try simp only [q4_, q5_, q6_]); refine held1 17 ?_; (first | refine H.yt ?_ (hv := set_byte _ _ _ _ _ _ HX.out HK.out hr8 hq6 hbl HL.out) | refine H.ys ?_ | refine H.yt ?_); intro w H; refine H.nx ?_; (try simp only [Act.put]); refine wpAnyH_done (by kernel_rfl) ?_ _); rotate_left; (unfold Oper.wp; go_simp; (first | ((first | go_at_call 135 | go_at_call 136); (with_reducible first | refine H.kc (cM _) ?_ | refine H.kc (cA _) ?_); clear H; intro w H)); refine H.nx ?_; (try simp only [Act.put, q1_, q2_, q3_]); (try simp only [q4_, q5_, q6_]); refine H.zr 9 ?_; (try simp only [Act.put, q1_, q2_, q3_]); (try simp only [q4_, q5_, q6_]); refine H.zr 14 ?_; (try simp only [Act.put, q1_, q2_, q3_]); (try simp only [q4_, q5_, q6_]); refine held1 5 ?_; (first | refine H.ym ?_ (hv := by first | with_reducible exact G) | refine H.yl ?_ | refine H.ym ?_); refine H.nx ?_; (try simp only [Act.put, q1_, q2_, q3_]); (try simp only [q4_, q5_, q6_]); refine H.zr 15 ?_; (try simp only [Act.put, q1_, q2_, q3_]); (try simp only [q4_, q5_, q6_]); refine H.zr 16 ?_; (try simp only [Act.put, q1_, q2_, q3_]); (try simp only [q4_, q5_, q6_]); refine held1 17 ?_; (first | refine H.yt ?_ (hv := set_byte _ _ _ _ _ _ HX.out HK.out hr8 hq6 hbl HL.out) | refine H.ys ?_ | refine H.yt ?_); intro w H; refine H.nx ?_; (try simp only [Act.put]); refine wpAnyH_done (by kernel_rfl) ?_ _))
  | (go_at_call 135; (with_reducible refine H.kc (cM _) ?_; clear H; intro w H))
  | (go_at_call 136; (with_reducible refine H.kc (cA _) ?_; clear H; intro w H))
  )
   all_goals
    go_roundw
    case rel => exact ⟨k + 1, by omega, by go_num, by rw [HB.out]; exact H⟩
    case measure => simp [intOf] <;> omega
  ·obtain rfl : k = m := by omega
   have HE := Lib.hid (show n % 256 ^ k = n from Nat.mod_eq_of_lt HF.out)
   rw [HE.out] at H
   clear hlt hk cM
   go_wp2_with (first
  | ((with_reducible refine g12_ rfl rfl ?_); refine H.xa ?_; (intro gr w H; simp only [Act.put, q1_, q2_, q3_]))
  | ((with_reducible refine g4_ rfl rfl ?_); refine H.xa ?_; (intro gs w H; simp only [Act.put, q1_, q2_, q3_]))
  | ((with_reducible refine g0_ rfl ?_); refine H.xb ?_; (intro g w H; simp only [Act.put, q1_, q2_, q3_]))
  | ((with_reducible refine g1_ rfl ?_); refine H.xa ?_; (intro g w H; simp only [Act.put, q1_, q2_, q3_]))
  | ((with_reducible refine g2_ rfl ?_); (first | refine H.xl ?_ | refine H.xm ?_); simp only [Act.put, q1_, q2_, q3_])
  | ((with_reducible refine g3_ rfl ?_); (first | refine H.xs ?_ | refine H.xt ?_); (intro w H; simp only [Act.put]))
  | (go_at_call 135; (with_reducible refine H.kc (cM _) ?_; clear H; intro w H))
  | (go_at_call 136; (with_reducible refine H.kc (cA _) ?_; clear H; intro w H))
  )
   refine bodyPost_ret (results_ct rfl rfl (H.res rW v2_ (ext_limbs _) (by rfl))) rfl ⟨?_, H.below⟩
   rfl
def fdC (m : ByteArray) (a h : Int) (x : Bool) : Array Value := #[.string m, .int .i64 a, .int .i64 h, .bool x]
theorem ext_fd (m : ByteArray) (a h : Int) (x : Bool) : (fdC m a h x).extract 0 (0 + (fdC m a h x).size) = fdC m a h x := by rw [Nat.zero_add]; exact Array.extract_size
theorem get_fd1 (m : ByteArray) (a h : Int) (x : Bool) : (fdC m a h x)[1]? = some (.int .i64 a) := rfl
theorem get_fd3 (m : ByteArray) (a h : Int) (x : Bool) : (fdC m a h x)[3]? = some (.bool x) := rfl
theorem set_fd (m : ByteArray) (a h : Int) (x : Bool) (m' : ByteArray) (a' h' : Int) (x' : Bool) : setRow (fdC m a h x) 0 (fdC m' a' h' x').toList = fdC m' a' h' x' := set_all _ _ rfl
theorem tFd_s : (Tryz.prog.info? 196).map (·.size) = some 4 := by kernel_rfl
theorem tFd_z : (Tryz.prog.info? 196).bind (·.zero) = some (.agg (fdC ⟨#[]⟩ 0 0 false)) := by unfold fdC; kernel_rfl
theorem rFd : IsRow Tryz.prog 196 4 (fdC ⟨#[]⟩ 0 0 false) := ⟨⟨_, Tryz.underlying196, rfl⟩, tFd_s, tFd_z⟩
theorem w_zero : W 0 = .agg #[.int .u64 0, .int .u64 0, .int .u64 0, .int .u64 0, .int .u64 0, .int .u64 0] := by unfold W limbs; simp only [limb_zero]
theorem wide_z (w : World) : (Instr.build 60 #[]).run Tryz.prog w = .ok (W 0) w := by
 have hz := run_zeroValue (rW).zero w
 unfold Instr.build
 simp only [Sem.run_bind, hz, Result.andThen_ok, run_underlying Tryz.underlying60]
 go_simp
 try rfl
theorem set_bitsR (a b c d : Value) : setRow #[a, b] 0 (#[c, d] : Array Value).toList = #[c, d] := rfl
theorem r2ToBits_any (b : Nat) (w : World) (hb : b < 2 ^ (64 * 2)) :
  CR_ 218 #[W b] w (.tuple #[BV b, .bool true]) := by
 have H := Own.start w
 have hz : ∀ i, 2 ≤ i → limb b i = 0 := fun i hi => by
  unfold limb limbN
  rw [Nat.div_eq_of_lt (Nat.lt_of_lt_of_le hb (Nat.pow_le_pow_right (by decide) (by omega)))]; rfl
 have G2 : (limbs b)[2]? = some (.int .u64 0) := by rw [limbs_get b 2 (by decide), hz 2 (by decide)]
 have G3 : (limbs b)[3]? = some (.int .u64 0) := by rw [limbs_get b 3 (by decide), hz 3 (by decide)]
 have G4 : (limbs b)[4]? = some (.int .u64 0) := by rw [limbs_get b 4 (by decide), hz 4 (by decide)]
 have G5 : (limbs b)[5]? = some (.int .u64 0) := by rw [limbs_get b 5 (by decide), hz 5 (by decide)]
 clear hz hb
 go_enter Tryz.func218, Tryz.ntmps218
 go_wp2_with (first
  | ((with_reducible refine g7_ rfl ?_); refine H.xm ?_ (hv := by first | with_reducible exact G2 | with_reducible exact G3 | with_reducible exact G4 | with_reducible exact G5); simp only [Act.put, q1_, q2_, q3_])
  | ((with_reducible refine g0_ rfl ?_); refine H.xb ?_; (intro g w H; simp only [Act.put, q1_, q2_, q3_]))
  | ((with_reducible refine g1_ rfl ?_); refine H.xa ?_; (intro g w H; simp only [Act.put, q1_, q2_, q3_]))
  | ((with_reducible refine g2_ rfl ?_); (first | refine H.xl ?_ | refine H.xm ?_); simp only [Act.put, q1_, q2_, q3_])
  | ((with_reducible refine g3_ rfl ?_); (first | refine H.xs ?_ | refine H.xt ?_); (intro w H; simp only [Act.put]))
  )
 all_goals
  refine bodyPost_ret (results_ct rfl rfl (H.res rB v2_ v3_ (by rfl))) rfl ⟨?_, H.below⟩
  exact rfl
theorem r7Build_f (f e0 t p s u n s2 v b : Nat) (lo ca lo2 ca2 fb : Bool) (w : World) (hp : p ≤ 113) (h1p : 1 ≤ p) (hn : n ≤ 128) (h1n : 1 ≤ n) (he : IntKind.u64.wrap (e0 : Int) = (e0 : Int)) (cR : CK_ 62 #[.int .u8 f] (.bool true)) (cO : CK_ 165 #[.int .u64 (e0 : Nat)] (W e0)) (cP : CK_ 166 #[.int .u8 f] (.int .i64 (p : Nat))) (cL : CK_ 164 #[W e0, .int .i64 ((p : Int) - 1)] (.tuple #[W s, .bool lo])) (cA : CK_ 217 #[W s, W t] (.tuple #[W u, .bool ca])) (cB : CK_ 218 #[W u] (.tuple #[BV b, .bool fb])) :
  CR_ 167 #[.int .u8 f, .bool false, .int .i64 (e0 : Nat), W t] w (BV b) := by
 have H := Own.start w
 go_enter Tryz.func167, Tryz.ntmps167
 exact walk3
theorem r7Build_t (f e0 t p s u n s2 v b : Nat) (lo ca lo2 ca2 fb : Bool) (w : World) (hp : p ≤ 113) (h1p : 1 ≤ p) (hn : n ≤ 128) (h1n : 1 ≤ n) (he : IntKind.u64.wrap (e0 : Int) = (e0 : Int)) (cR : CK_ 62 #[.int .u8 f] (.bool true)) (cO : CK_ 165 #[.int .u64 (e0 : Nat)] (W e0)) (cP : CK_ 166 #[.int .u8 f] (.int .i64 (p : Nat))) (cL : CK_ 164 #[W e0, .int .i64 ((p : Int) - 1)] (.tuple #[W s, .bool lo])) (cA : CK_ 217 #[W s, W t] (.tuple #[W u, .bool ca])) (cO1 : CK_ 165 #[.int .u64 1] (W 1)) (cW : CK_ 127 #[.int .u8 f] (.int .i64 (n : Nat))) (cL2 : CK_ 164 #[W 1, .int .i64 ((n : Int) - 1)] (.tuple #[W s2, .bool lo2])) (cA2 : CK_ 217 #[W u, W s2] (.tuple #[W v, .bool ca2])) (cB : CK_ 218 #[W v] (.tuple #[BV b, .bool fb])) :
  CR_ 167 #[.int .u8 f, .bool true, .int .i64 (e0 : Nat), W t] w (BV b) := by
 have H := Own.start w
 go_enter Tryz.func167, Tryz.ntmps167
 exact walk3
theorem r7Build_any (f e0 t : Nat) (neg : Bool) (w : World) (hf : f < 4) (he : e0 < 2 * eF f + 2) (ht : t < 2 ^ (pF f - 1)) :
  CR_ 167 #[.int .u8 f, .bool neg, .int .i64 (e0 : Nat), W t] w (BV (mkN f neg e0 t)) := by
 obtain ⟨p1, p2, n1, n2, np1, np2⟩ := formB f hf
 obtain ⟨-, -, -, k4, k5, -, -, -⟩ := formK f hf
 have hm := (mkN_fields f hf neg e0 t ht he).2.2.2
 have hb := below_fits f _ hm
 have cR := fun w => r7Right_any f w
 rw [decide_eq_true hf] at cR
 have he64 : e0 < 18446744073709551616 := by omega
 have cO := fun w => r2Of_any e0 w he64
 have cP := fun w => r7Precision_any f w
 have cW := fun w => r7Width_any f w
 have cL := fun w => r2Left_any e0 ((pF f : Int) - 1) w (lt_top_bits e0 (by omega))
 rw [show clip ((pF f : Int) - 1) = pF f - 1 by unfold clip; omega] at cL
 have cA := fun w => r2Add_any (e0 * 2 ^ (pF f - 1)) t w
 have hw : IntKind.u64.wrap (e0 : Int) = (e0 : Int) := by rw [IntKind.wrap_u64]; omega
 cases neg
 ·have e1 : mkN f false e0 t = e0 * 2 ^ (pF f - 1) + t := by unfold mkN signN; simp
  rw [e1] at hb ⊢
  exact r7Build_f f e0 t (pF f) _ _ 1 0 0 _ _ _ false false _ w (by omega) (by omega) (by omega) (by omega) hw cR cO cP cL cA (fun w => r2ToBits_any _ w hb)
 ·have e1 : mkN f true e0 t = e0 * 2 ^ (pF f - 1) + t + 2 ^ (wF f - 1) := by unfold mkN signN; simp
  have cO1 := fun w => r2Of_any 1 w (by decide)
  have cL2 := fun w => r2Left_any 1 ((wF f : Int) - 1) w (lt_top_bits 1 (by decide))
  rw [show clip ((wF f : Int) - 1) = wF f - 1 by unfold clip; omega, Nat.one_mul] at cL2
  have cA2 := fun w => r2Add_any (e0 * 2 ^ (pF f - 1) + t) (2 ^ (wF f - 1)) w
  rw [e1] at hb ⊢
  exact r7Build_t f e0 t (pF f) _ _ (wF f) _ _ _ _ _ _ _ _ w (by omega) (by omega) (by omega) (by omega) hw cR cO cP cL cA cO1 cW cL2 cA2 (fun w => r2ToBits_any _ w hb)
theorem r7NaN_w (f o p s b : Nat) (lo : Bool) (w : World) (hp : p ≤ 113) (cO : CK_ 165 #[.int .u64 1] (W 1)) (cP : CK_ 166 #[.int .u8 f] (.int .i64 (p : Nat))) (cL : CK_ 164 #[W 1, .int .i64 ((p : Int) - 2)] (.tuple #[W s, .bool lo])) (cN : CK_ 168 #[.int .u8 f] (.int .i64 (o : Nat))) (cU : CK_ 167 #[.int .u8 f, .bool false, .int .i64 (o : Nat), W s] (BV b))  :
  CR_ 85 #[.int .u8 f] w (BV b) := by
 have H := Own.start w
 go_enter Tryz.func85, Tryz.ntmps85
 exact walk3
theorem r7Inf_w (f o b : Nat) (neg : Bool) (w : World) (cN : CK_ 168 #[.int .u8 f] (.int .i64 (o : Nat))) (cU : CK_ 167 #[.int .u8 f, .bool neg, .int .i64 (o : Nat), .agg #[.int .u64 0, .int .u64 0, .int .u64 0, .int .u64 0, .int .u64 0, .int .u64 0]] (BV b))  :
  CR_ 86 #[.int .u8 f, .bool neg] w (BV b) := by
 have H := Own.start w
 go_enter Tryz.func86, Tryz.ntmps86
 exact walk3
theorem r7Zero_w (f b : Nat) (neg : Bool) (w : World) (cU : CK_ 167 #[.int .u8 f, .bool neg, .int .i64 0, .agg #[.int .u64 0, .int .u64 0, .int .u64 0, .int .u64 0, .int .u64 0, .int .u64 0]] (BV b))  :
  CR_ 87 #[.int .u8 f, .bool neg] w (BV b) := by
 have H := Own.start w
 go_enter Tryz.func87, Tryz.ntmps87
 exact walk3
theorem r7Greatest_w (f o p m b : Nat) (neg : Bool) (w : World) (hp : p ≤ 113) (ho : o ≤ 40000) (cN : CK_ 168 #[.int .u8 f] (.int .i64 (o : Nat))) (cP : CK_ 166 #[.int .u8 f] (.int .i64 (p : Nat))) (cM : CK_ 194 #[.int .i64 ((p : Int) - 1)] (W m)) (cU : CK_ 167 #[.int .u8 f, .bool neg, .int .i64 ((o : Int) - 1), W m] (BV b))  :
  CR_ 226 #[.int .u8 f, .bool neg] w (BV b) := by
 have H := Own.start w
 go_enter Tryz.func226, Tryz.ntmps226
 exact walk3
theorem r7NaN_any (f : Nat) (w : World) (hf : f < 4) : CR_ 85 #[.int .u8 f] w (BV (nanN f)) := by
 obtain ⟨p1, p2, n1, n2, np1, np2⟩ := formB f hf
 have cL := fun w => r2Left_any 1 ((pF f : Int) - 2) w (lt_top_bits 1 (by decide))
 rw [show clip ((pF f : Int) - 2) = pF f - 2 by unfold clip; omega, Nat.one_mul] at cL
 have hp : 2 ^ (pF f - 1) = 2 ^ (pF f - 2) + 2 ^ (pF f - 2) := by rw [show pF f - 1 = pF f - 2 + 1 by omega, Nat.pow_succ]; omega
 have h2 := two_pos (pF f - 2)
 have cU := fun w => r7Build_any f (2 * eF f + 1) (2 ^ (pF f - 2)) false w hf (by omega) (by omega)
 have e1 : mkN f false (2 * eF f + 1) (2 ^ (pF f - 2)) = nanN f := by
  unfold mkN nanN signN
  rw [decide_eq_true hf, hp]
  simp only [cond_true, cond_false, Nat.add_zero]
  rw [← Nat.two_mul, ← Nat.mul_assoc]
  have : (4 * eF f + 3) = (2 * eF f + 1) * 2 + 1 := by omega
  rw [this]; exact (Nat.succ_mul _ _).symm
 rw [e1] at cU
 exact r7NaN_w f _ (pF f) _ _ _ w p2 (fun w => r2Of_any 1 w (by decide)) (fun w => r7Precision_any f w) cL (fun w => r7Ones_any f w) cU
theorem r7Inf_any (f : Nat) (neg : Bool) (w : World) (hf : f < 4) : CR_ 86 #[.int .u8 f, .bool neg] w (BV (infN f neg)) := by
 rw [infN_mk f neg hf]
 have cU := fun w => r7Build_any f (2 * eF f + 1) 0 neg w hf (by omega) (two_pos _)
 simp only [w_zero] at cU
 exact r7Inf_w f _ _ neg w (fun w => r7Ones_any f w) cU
theorem r7Zero_any (f : Nat) (neg : Bool) (w : World) (hf : f < 4) : CR_ 87 #[.int .u8 f, .bool neg] w (BV (zeroN f neg)) := by
 rw [zeroN_mk f neg hf]
 have cU := fun w => r7Build_any f 0 0 neg w hf (by omega) (two_pos _)
 simp only [w_zero] at cU
 exact r7Zero_w f _ neg w cU
theorem great_mkR (f : Nat) (neg : Bool) (hf : f < 4) : greatN f neg = mkN f neg (2 * eF f) (2 ^ (pF f - 1) - 1) := by
 unfold greatN mkN
 have := two_pos (pF f - 1)
 rw [decide_eq_true hf]
 simp only [cond_true]
 rw [Nat.add_mul, Nat.one_mul]; omega
theorem r7Greatest_any (f : Nat) (neg : Bool) (w : World) (hf : f < 4) : CR_ 226 #[.int .u8 f, .bool neg] w (BV (greatN f neg)) := by
 obtain ⟨p1, p2, n1, n2, np1, np2⟩ := formB f hf
 have he := eF_le f
 rw [great_mkR f neg hf]
 have cM := fun w => r2Mask_any ((pF f : Int) - 1) w
 rw [show clip ((pF f : Int) - 1) = pF f - 1 by unfold clip; omega] at cM
 have cU := fun w => r7Build_any f (2 * eF f) (2 ^ (pF f - 1) - 1) neg w hf (by omega) (by have := two_pos (pF f - 1); omega)
 rw [show ((2 * eF f : Nat) : Int) = ((2 * eF f + 1 : Nat) : Int) - 1 by omega] at cU
 exact r7Greatest_w f _ (pF f) _ _ neg w p2 (by omega) (fun w => r7Ones_any f w) (fun w => r7Precision_any f w) cM cU
theorem r8Flip_no (f b : Nat) (w : World) (cT : CK_ 48 #[.int .u8 f, BV b] (.bool false)) :
  CR_ 109 #[.int .u8 f, BV b] w (BV 0) := by
 have H := Own.start w
 go_enter Tryz.func109, Tryz.ntmps109
 exact walk4
theorem r8Flip_yes (f b c e0 t : Nat) (neg : Bool) (w : World) (cT : CK_ 48 #[.int .u8 f, BV b] (.bool true)) (cF : CK_ 128 #[.int .u8 f, BV b] (.tuple #[.bool neg, .int .i64 (e0 : Nat), W t])) (cU : CK_ 167 #[.int .u8 f, .bool (!neg), .int .i64 (e0 : Nat), W t] (BV c)) :
  CR_ 109 #[.int .u8 f, BV b] w (BV c) := by
 have H := Own.start w
 go_enter Tryz.func109, Tryz.ntmps109
 exact walk4
theorem r8Flip_any (f b : Nat) (w : World) (hb : b < 2 ^ (64 * 2)) : CR_ 109 #[.int .u8 f, BV b] w (BV (flipN f b)) := by
 have cT := fun w => r7Fits_any f b w hb
 unfold flipN
 cases h : fitsB f b
 ·rw [h] at cT; exact r8Flip_no f b w cT
 ·rw [h] at cT
  have hf := ((fits_iff f b).1 h).1
  exact r8Flip_yes f b _ _ _ _ w cT (fun w => r7Fields_any f b w hf hb) (fun w => r7Build_any f (expN f b) (b % 2 ^ (pF f - 1)) (!negN f b) w hf (expN_lt f b hf) (Nat.mod_lt _ (two_pos _)))
end Go.Proofs.YtgmhmpflmgfcdaaGreatDoor
