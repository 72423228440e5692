/- Part 17 of what is proved: Fin, Fin2, Px. -/
import Derived.Test.YtbngedcblngnhaaDoorHs1
import Derived.Test.YtbngedcblngnhaaDoorHs4
import Derived.Test.YtbngedcblngnhaaDoorHs10
set_option linter.unusedSimpArgs false
set_option linter.unusedVariables false
set_option linter.unnecessarySimpa false
set_option maxRecDepth 100000
set_option maxHeartbeats 1600000
namespace Go.Proofs.YtbngedcblngnhaaDoor
theorem infB_cases (c : Nat) (h : infB c = true) : c = 0 ∨ c = 7 := by unfold infB at h; simpa using h
theorem sigN_113 (f a : Nat) (hf : fitsB f a = true) : sigN f a < 2 ^ 113 := by
  have h4 := ((fits_iff f a).1 hf).1
  have hp := pF_113 f
  rcases cls_sort f a with c | c | c | c
  · unfold sigN; rw [if_neg (by omega), if_neg (by omega)]; exact two_pos 113
  · unfold sigN; rw [if_neg (by omega), if_neg (by omega)]; exact two_pos 113
  · unfold sigN; rw [if_neg (by omega), if_neg (by omega)]; exact two_pos 113
  · have := (can_of f a hf c).1.lt
    exact Nat.lt_of_lt_of_le this (Nat.pow_le_pow_right (by decide) hp)
theorem xpN_bound (f a : Nat) (hf : fitsB f a = true) : -40000 ≤ xpN f a ∧ xpN f a ≤ 40000 := by
  have h4 := ((fits_iff f a).1 hf).1
  obtain ⟨h1, h2, h3, h5, h6, h7, h8, h9⟩ := formK f h4
  rcases cls_sort f a with c | c | c | c
  · unfold xpN; rw [if_neg (by omega), if_neg (by omega)]; omega
  · unfold xpN; rw [if_neg (by omega), if_neg (by omega)]; omega
  · unfold xpN; rw [if_neg (by omega), if_neg (by omega)]; omega
  · have hc := (can_of f a hf c).1
    have := hc.ge; have := hc.le; omega
theorem below_fits (f a : Nat) (h : fitsB f a = true) : a < 2 ^ (64 * 2) := by
  obtain ⟨h4, hb⟩ := (fits_iff f a).1 h
  exact Nat.lt_of_lt_of_le hb (Nat.pow_le_pow_right (by decide) (by have := (formB f h4).2.2.2.1; omega))
theorem canon_flag (b : Bool) : (cond b (16 : Int) 0) = ((cond b 16 0 : Nat) : Int) := by cases b <;> rfl
theorem jamN_lt (y k n : Nat) (hn : 1 ≤ n) (h : y < 2 ^ n) : jamN y k < 2 ^ n := by
  obtain ⟨i, rfl⟩ : ∃ i, n = i + 1 := ⟨n - 1, by omega⟩
  have hd : y / 2 ^ k ≤ y := Nat.div_le_self _ _
  rw [Nat.pow_succ] at *
  unfold jamN
  split
  · omega
  · rw [or_one]; omega
theorem pack_ok (f m s : Nat) (neg : Bool) (e : Int) (hf : f < 4) (hm : m < 5) (h1 : -1048576 ≤ e) (h2 : e ≤ 1048576) (h0 : s ≠ 0) :
    packN f m neg s e false = ((packB f m neg s e false).1, (packB f m neg s e false).2, 0) := by
  unfold packN packOk
  rw [decide_eq_true hf, decide_eq_true hm, decide_eq_true h1, decide_eq_true h2, if_neg h0]; rfl
theorem sig_ne (f a : Nat) (hfa : fitsB f a = true) (h1 : nanB (clsN f a) = false) (i1 : infB (clsN f a) = false) (z1 : zerB (clsN f a) = false) : sigN f a ≠ 0 := by
  intro h0
  have := (sig_zero f a hfa (by intro h; rw [show nanB (clsN f a) = true from decide_eq_true h] at h1; cases h1) (by intro h; rw [show infB (clsN f a) = true by unfold infB; rcases h with h | h <;> rw [h] <;> rfl] at i1; cases i1)).1 h0
  rw [show zerB (clsN f a) = true by unfold zerB; rcases this with h | h <;> rw [h] <;> rfl] at z1; cases z1
theorem inf_zer (c : Nat) (h : infB c = true) : zerB c = false := by rcases infB_cases c h with rfl | rfl <;> rfl
theorem cast_beq (a b : Nat) : ((a : Int) == (b : Int)) = decide (a = b) := by
  by_cases h : a = b
  · subst h; simp
  · rw [decide_eq_false h]
    exact beq_eq_false_iff_ne.2 (by omega)
theorem lt_113_6 (x n : Nat) (hn : n ≤ 384) (h : x < 2 ^ n) : x < top6 := lt_pwr top6 n (64 * 6) _ top6.eq_1 hn h
theorem mul_pow_lt (x n k : Nat) (h : x < 2 ^ n) : x * 2 ^ k < 2 ^ (n + k) := by
  rw [Nat.pow_add]; exact Nat.mul_lt_mul_of_pos_right h (two_pos k)
theorem lt_up (x a b : Nat) (h : x < 2 ^ a) (hab : a ≤ b) : x < 2 ^ b := Nat.lt_of_lt_of_le h (Nat.pow_le_pow_right (by decide) hab)
theorem add_lt_pow (S t n : Nat) (h1 : S < 2 ^ n) (h2 : t < 2 ^ n) : S + t < 2 ^ (n + 1) := by rw [Nat.pow_succ]; omega
theorem sub_lt_pow (S t n : Nat) (h1 : S < 2 ^ n) : S - t < 2 ^ (n + 1) := by rw [Nat.pow_succ]; omega
theorem add_lt_pow2 (S t n k : Nat) (hk : n + 1 = k) (h1 : S < 2 ^ n) (h2 : t < 2 ^ n) : S + t < 2 ^ k := by subst hk; exact add_lt_pow S t n h1 h2
theorem sub_lt_pow2 (S t n k : Nat) (hk : n + 1 = k) (h1 : S < 2 ^ n) : S - t < 2 ^ k := by subst hk; exact sub_lt_pow S t n h1
theorem sub_ne (S t : Nat) (h : t < S) : S - t ≠ 0 := by omega
theorem add_ne (S t : Nat) (h : S ≠ 0) : S + t ≠ 0 := by omega
def canon3 (f c d e : Nat) : Nat × Nat := (nanN f, cond (decide (c = 8) || decide (d = 8) || decide (e = 8)) 16 0)
def fmaR (f m a b c : Nat) : Nat × Nat :=
  if (infB (clsN f a) && zerB (clsN f b) || infB (clsN f b) && zerB (clsN f a)) = true then (nanN f, 16)
  else if (nanB (clsN f a) || nanB (clsN f b) || nanB (clsN f c)) = true then canon3 f (clsN f a) (clsN f b) (clsN f c)
  else if (infB (clsN f a) || infB (clsN f b)) = true then
    (if (infB (clsN f c) && (belowN4 (clsN f c) != (belowN4 (clsN f a) != belowN4 (clsN f b)))) = true then (nanN f, 16) else (infN f (belowN4 (clsN f a) != belowN4 (clsN f b)), 0))
  else if infB (clsN f c) = true then (c, 0)
  else if ((zerB (clsN f a) || zerB (clsN f b)) && zerB (clsN f c)) = true then
    (if belowN4 (clsN f c) = (belowN4 (clsN f a) != belowN4 (clsN f b)) then (c, 0) else (zeroN f (decide (m = 2)), 0))
  else if (zerB (clsN f a) || zerB (clsN f b)) = true then (c, 0)
  else if zerB (clsN f c) = true then packB f m (belowN4 (clsN f a) != belowN4 (clsN f b)) (sigN f a * sigN f b) (xpN f a + xpN f b) false
  else sumX f m (belowN4 (clsN f a) != belowN4 (clsN f b)) (sigN f a * sigN f b) (xpN f a + xpN f b) (belowN4 (clsN f c)) (sigN f c) (xpN f c)
def triOk (f m a b c : Nat) : Bool := decide (f < 4) && decide (m < 5) && (fitsB f a && fitsB f b && fitsB f c)
def fmaN (f m a b c : Nat) : Nat × Nat × Int := cond (triOk f m a b c) ((fmaR f m a b c).1, (fmaR f m a b c).2, 0) (0, 0, 2)
/-- The sum as fma.sum reckons it: the one whose highest bit is higher, at the top; the other one beneath it. -/
theorem sum_core (f m : Nat) (nx : Bool) (sx : Nat) (ex : Int) (ny : Bool) (sy : Nat) (ey : Int) (hf : f < 4) (hx : sx ≠ 0) (hy : sy ≠ 0) (hxl : sx < 2 ^ 226) (hyl : sy < 2 ^ 226) :
    (ey < ex - (381 - lenN sx) → sumJ f m nx (sx * 2 ^ (381 - lenN sx)) ny (jamN sy (ex - (381 - lenN sx : Int) - ey).toNat) (ex - (381 - lenN sx)) = sumX f m nx sx ex ny sy ey) ∧
    (ex - (381 - lenN sx) ≤ ey → sumJ f m nx (sx * 2 ^ (381 - lenN sx)) ny (sy * 2 ^ (ey - (ex - (381 - lenN sx : Int))).toNat) (ex - (381 - lenN sx)) = sumX f m nx sx ex ny sy ey) := by
  obtain ⟨h1, h2, h3, h4, h5, h6, h7, h8⟩ := formK f hf
  have hl1 := (lenN_le sx 226).2 hxl
  have hl2 := lenN_pos sx hx
  obtain ⟨n, hn⟩ : ∃ n, 381 - lenN sx = n := ⟨_, rfl⟩
  have hni : (381 - (lenN sx : Int)) = n := by omega
  rw [hni, hn]
  have hS0 : sx * 2 ^ n ≠ 0 := fun h => by rcases Nat.mul_eq_zero.1 h with h | h; exact hx h; exact absurd h (Nat.ne_of_gt (two_pos _))
  constructor
  · intro hlt
    obtain ⟨k, hk⟩ : ∃ k, (ex - (n : Int) - ey).toNat = k := ⟨_, rfl⟩
    rw [hk, sumJ_eq f m nx _ ny sy k _ hf hS0 hy ?_]
    · rw [← sumX_scale f m nx sx ex ny sy ey ey (by omega) hx hy, show ex - (n : Int) - k = ey by omega, Nat.mul_assoc, ← Nat.pow_add, show n + k = (ex - ey).toNat by omega, show (ey - ey).toNat = 0 by omega, Nat.pow_zero, Nat.mul_one]
    · intro _
      obtain ⟨q, hq⟩ : ∃ q : Nat, lenN sx - 1 + n = q := ⟨_, rfl⟩
      have hbig : 2 ^ q ≤ sx * 2 ^ n := by
        have := lenN_ge sx hx
        have h2 : 2 ^ (lenN sx - 1) * 2 ^ n ≤ sx * 2 ^ n := Nat.mul_le_mul_right _ this
        rw [← Nat.pow_add, hq] at h2; exact h2
      have hT : sy / 2 ^ k ≤ sy := Nat.div_le_self _ _
      have hev : sx * 2 ^ n % 2 = 0 := by
        obtain ⟨j, hj⟩ : ∃ j, n = j + 1 := ⟨n - 1, by omega⟩
        rw [hj, Nat.pow_succ, ← Nat.mul_assoc]; exact Nat.mul_mod_left _ _
      have hp : 2 ^ 227 ≤ 2 ^ q := Nat.pow_le_pow_right (by decide) (by omega)
      have hp2 : 2 ^ 227 = 2 ^ 226 * 2 := Nat.pow_succ 2 226
      have hp3 : 2 ^ 116 ≤ 2 ^ 226 := Nat.pow_le_pow_right (by decide) (by decide)
      generalize sy / 2 ^ k = T at *
      generalize sx * 2 ^ n = Z at *
      generalize 2 ^ q = A at *
      generalize 2 ^ 227 = B at *
      refine ⟨hev, ?_, ?_⟩
      · rcases Nat.lt_or_ge (lenN (Z - T - 1)) 116 with h | h
        · have h9 := (lenN_le (Z - T - 1) 115).1 (by omega)
          have hp4 : 2 ^ 116 = 2 ^ 115 * 2 := Nat.pow_succ 2 115
          generalize 2 ^ 226 = C at *
          generalize 2 ^ 116 = D at *
          generalize 2 ^ 115 = F at *
          omega
        · omega
      · have : 1 ≤ 2 ^ 116 := two_pos 116
        generalize 2 ^ 226 = C at *
        generalize 2 ^ 116 = D at *
        omega
  · intro hge
    obtain ⟨k, hk⟩ : ∃ k, (ey - (ex - (n : Int))).toNat = k := ⟨_, rfl⟩
    rw [hk]
    have hy0 : sy * 2 ^ k ≠ 0 := fun h => by rcases Nat.mul_eq_zero.1 h with h | h; exact hy h; exact absurd h (Nat.ne_of_gt (two_pos _))
    have hj : jamN (sy * 2 ^ k) 0 = sy * 2 ^ k := by unfold jamN; rw [Nat.pow_zero, Nat.mod_one, if_pos rfl, Nat.div_one]
    have := sumJ_eq f m nx (sx * 2 ^ n) ny (sy * 2 ^ k) 0 (ex - n) hf hS0 hy0 (fun h => by rw [Nat.pow_zero, Nat.mod_one] at h; exact absurd rfl h)
    rw [hj] at this
    rw [this, Nat.pow_zero, Nat.mul_one, Int.natCast_zero, Int.sub_zero, ← sumX_scale f m nx sx ex ny sy ey (ex - n) (by omega) hx hy, hk, show (ex - (ex - (n : Int))).toNat = n by omega]
theorem sumX_left (f m : Nat) (nx : Bool) (sx : Nat) (ex : Int) (ny : Bool) (sy : Nat) (ey : Int) (j : Nat) (hx : sx ≠ 0) (hy : sy ≠ 0) : sumX f m nx (sx * 2 ^ j) (ex - j) ny sy ey = sumX f m nx sx ex ny sy ey := by
  have hx2 : sx * 2 ^ j ≠ 0 := fun h => by rcases Nat.mul_eq_zero.1 h with h | h; exact hx h; exact absurd h (Nat.ne_of_gt (two_pos _))
  rw [← sumX_scale f m nx (sx * 2 ^ j) (ex - j) ny sy ey (min (ex - j) ey) (by omega) hx2 hy, ← sumX_scale f m nx sx ex ny sy ey (min (ex - j) ey) (by omega) hx hy]
  rw [Nat.mul_assoc, ← Nat.pow_add, show j + (ex - (j : Int) - min (ex - j) ey).toNat = (ex - min (ex - j) ey).toNat by omega]
theorem fma_swap (f m a b c : Nat) : fmaN f m a b c = fmaN f m b a c := by
  have hR : fmaR f m a b c = fmaR f m b a c := by
    unfold fmaR canon3
    rw [Bool.or_comm (nanB (clsN f a)), Bool.or_comm (decide (clsN f a = 8)), Bool.or_comm (infB (clsN f a) && zerB (clsN f b)), Bool.or_comm (infB (clsN f a)), Bool.or_comm (zerB (clsN f a)), bne_swap (belowN4 (clsN f a)), Nat.mul_comm (sigN f a), Int.add_comm (xpN f a)]
  have hO : triOk f m a b c = triOk f m b a c := by unfold triOk; rw [Bool.and_comm (fitsB f a)]
  unfold fmaN; rw [hR, hO]
/-- With the right zero it is a product. -/
theorem fma_zero (f m a b : Nat) (hf : f < 4) : fmaR f m a b (zeroN f (negN f a != negN f b)) = mulR f m a b := by
  obtain ⟨z1, z2⟩ := zero_parts f (negN f a != negN f b) hf
  have hz : clsN f (zeroN f (negN f a != negN f b)) = 3 ∨ clsN f (zeroN f (negN f a != negN f b)) = 4 := by rw [z2]; cases negN f a != negN f b <;> simp
  obtain ⟨c1, c2, c3⟩ := zer_flags f _ hz
  have hb : belowN4 (clsN f (zeroN f (negN f a != negN f b))) = (negN f a != negN f b) := by rw [z2]; cases negN f a != negN f b <;> rfl
  have h8 : decide (clsN f (zeroN f (negN f a != negN f b)) = 8) = false := by rw [z2]; cases negN f a != negN f b <;> rfl
  unfold fmaR mulR canon3 canonR
  rw [c1, c2, c3, hb, h8]
  simp only [Bool.or_false, Bool.false_and, Bool.false_eq_true, if_false, Bool.and_true]
  by_cases hn : (nanB (clsN f a) || nanB (clsN f b)) = true
  · have hi : (infB (clsN f a) && zerB (clsN f b) || infB (clsN f b) && zerB (clsN f a)) = false := by
      rcases Bool.or_eq_true_iff.1 hn with h | h
      · have h := of_decide_eq_true h
        have e1 : infB (clsN f a) = false := by unfold infB; rw [decide_eq_false (by omega), decide_eq_false (by omega)]; rfl
        have e2 : zerB (clsN f a) = false := by unfold zerB; rw [decide_eq_false (by omega), decide_eq_false (by omega)]; rfl
        rw [e1, e2]; simp
      · have h := of_decide_eq_true h
        have e1 : infB (clsN f b) = false := by unfold infB; rw [decide_eq_false (by omega), decide_eq_false (by omega)]; rfl
        have e2 : zerB (clsN f b) = false := by unfold zerB; rw [decide_eq_false (by omega), decide_eq_false (by omega)]; rfl
        rw [e1, e2]; simp
    rw [hi, if_neg (by simp), if_pos hn, if_pos hn]
  · have hna : ¬ 8 ≤ clsN f a := fun h => hn (by rw [show nanB (clsN f a) = true from decide_eq_true h]; rfl)
    have hnb : ¬ 8 ≤ clsN f b := fun h => hn (by rw [show nanB (clsN f b) = true from decide_eq_true h]; simp)
    rw [if_neg hn, if_neg hn, below_neg f a hna, below_neg f b hnb]
    by_cases hi : (infB (clsN f a) && zerB (clsN f b) || infB (clsN f b) && zerB (clsN f a)) = true
    · rw [if_pos hi, if_pos hi]
    · rw [if_neg hi, if_neg hi]
      by_cases h2 : (infB (clsN f a) || infB (clsN f b)) = true
      · rw [if_pos h2, if_pos h2]
      · rw [if_neg h2, if_neg h2]
        by_cases h3 : (zerB (clsN f a) || zerB (clsN f b)) = true
        · rw [if_pos h3, if_pos h3]; first | rw [if_pos trivial] | rw [if_pos rfl] | simp
        · rw [if_neg h3, if_neg h3, if_neg h3, if_pos trivial]
end Go.Proofs.YtbngedcblngnhaaDoor
