/- Part 4 of what is proved: Pm, Hlp, R2, R2m, R7, R8f. -/
import Derived.Outline
import Derived.Test.YtecdpjhifmlahaaDoorHe1
import Derived.Test.YtecdpjhifmlahaaDoorHe2
import Derived.Test.YtecdpjhifmlahaaDoorHe3
set_option linter.unusedSimpArgs false
set_option linter.unusedVariables false
set_option linter.unnecessarySimpa false
set_option maxRecDepth 100000
set_option maxHeartbeats 1600000
namespace Go.Proofs.YtecdpjhifmlahaaDoor
def nanB (c : Nat) : Bool := decide (8 ≤ c)
def infB (c : Nat) : Bool := decide (c = 0) || decide (c = 7)
def zerB (c : Nat) : Bool := decide (c = 3) || decide (c = 4)
/-- The canonical NaN, loud if one is signaling. -/
def canonR (f c d : Nat) : Nat × Nat := (nanN f, cond (decide (c = 8) || decide (d = 8)) 16 0)
def mulR (f m a b : Nat) : Nat × Nat :=
  if (nanB (clsN f a) || nanB (clsN f b)) = true then canonR f (clsN f a) (clsN f b)
  else if (infB (clsN f a) && zerB (clsN f b) || infB (clsN f b) && zerB (clsN f a)) = true then (nanN f, 16)
  else if (infB (clsN f a) || infB (clsN f b)) = true then (infN f (belowN4 (clsN f a) != belowN4 (clsN f b)), 0)
  else if (zerB (clsN f a) || zerB (clsN f b)) = true then (zeroN f (belowN4 (clsN f a) != belowN4 (clsN f b)), 0)
  else packB f m (belowN4 (clsN f a) != belowN4 (clsN f b)) (sigN f a * sigN f b) (xpN f a + xpN f b) false
/-- With the other sign. -/
def flipN (f a : Nat) : Nat := cond (fitsB f a) (mkN f (!negN f a) (expN f a) (a % 2 ^ (pF f - 1))) 0
theorem enc_neg (f c : Nat) (q : Int) (neg : Bool) : encN f neg c q = encN f false c q + signN f neg := by unfold encN; cases neg <;> simp [signN]
theorem mk_neg (f : Nat) (neg : Bool) (e t : Nat) : mkN f neg e t = mkN f false e t + signN f neg := by unfold mkN; cases neg <;> simp [signN]
/-- The number by its sign and its other fields. -/
theorem of_sign (f a : Nat) (h : fitsB f a = true) (neg : Bool) : mkN f neg (expN f a) (a % 2 ^ (pF f - 1)) = cond (decide (neg = negN f a)) a (flipN f a) := by
  by_cases hn : neg = negN f a
  · rw [decide_eq_true hn, hn]; exact mkN_of f a h
  · rw [decide_eq_false hn]
    have : neg = !negN f a := by cases neg <;> cases hh : negN f a <;> simp_all
    unfold flipN; rw [h, this]; rfl
theorem fin_sign (f a : Nat) (h : fitsB f a = true) (hc : Fin0 f a) (neg : Bool) : encN f neg (sigN f a) (xpN f a) = mkN f neg (expN f a) (a % 2 ^ (pF f - 1)) := by
  have h1 := (can_of f a h hc).2
  have h2 := mkN_of f a h
  rw [enc_neg, mk_neg]
  rw [enc_neg] at h1
  unfold negN at h1
  rw [mk_neg] at h2
  omega
theorem cls_sort (f b : Nat) : 8 ≤ clsN f b ∨ (clsN f b = 0 ∨ clsN f b = 7) ∨ (clsN f b = 3 ∨ clsN f b = 4) ∨ Fin0 f b := by
  have := cls_le f b
  unfold Fin0; omega
theorem one_mk (f : Nat) (neg : Bool) (hf : f < 4) : oneN f neg = mkN f neg (eF f) 0 := by unfold oneN mkN; rw [decide_eq_true hf]; rfl
theorem one_parts (f : Nat) (neg : Bool) (hf : f < 4) : fitsB f (oneN f neg) = true ∧ clsN f (oneN f neg) = cond neg 1 6 ∧ sigN f (oneN f neg) = 2 ^ (pF f - 1) ∧ xpN f (oneN f neg) = 1 - (pF f : Int) := by
  rw [one_mk f neg hf]
  obtain ⟨h1, h2, h3, h4, h5, h6, h7, h8⟩ := formK f hf
  obtain ⟨m1, m2, m3, m4⟩ := mkN_fields f hf neg (eF f) 0 (two_pos _) (by omega)
  rcases cls_cases f (mkN f neg (eF f) 0) with ⟨e1, e2, e3⟩ | ⟨e1, e2, e3⟩ | ⟨e1, e2, e3⟩ | ⟨e1, e2, e3⟩ | ⟨e1, e2, e3⟩
  · omega
  · omega
  · omega
  · omega
  · have hn : negN f (mkN f neg (eF f) 0) = neg := m3
    rw [hn] at e3
    have c1 : clsN f (mkN f neg (eF f) 0) = 1 ∨ clsN f (mkN f neg (eF f) 0) = 6 := by rw [e3]; cases neg <;> decide
    refine ⟨m4, e3, ?_, ?_⟩
    · unfold sigN; rw [if_pos c1, m1, Nat.zero_add]
    · unfold xpN; rw [if_pos c1, m2]; omega
theorem bne_false (b : Bool) : (b != false) = b := by cases b <;> rfl
/-- Times 1, times -1. -/
theorem mul_one (f m a : Nat) (neg : Bool) (hf : f < 4) (h : fitsB f a = true) (h8 : ¬ 8 ≤ clsN f a) : mulR f m a (oneN f neg) = (cond neg (flipN f a) a, 0) := by
  obtain ⟨o1, o2, o3, o4⟩ := one_parts f neg hf
  have ho : belowN4 (clsN f (oneN f neg)) = neg := by rw [o2]; cases neg <;> rfl
  have hon : nanB (clsN f (oneN f neg)) = false ∧ infB (clsN f (oneN f neg)) = false ∧ zerB (clsN f (oneN f neg)) = false := by rw [o2]; cases neg <;> exact ⟨rfl, rfl, rfl⟩
  have hbn := below_neg f a h8
  have hbody : ∀ s : Bool, mkN f s (expN f a) (a % 2 ^ (pF f - 1)) = cond (decide (s = negN f a)) a (flipN f a) := of_sign f a h
  have hpick : mkN f (negN f a != neg) (expN f a) (a % 2 ^ (pF f - 1)) = cond neg (flipN f a) a := by
    rw [hbody]; cases neg <;> cases negN f a <;> rfl
  unfold mulR
  rw [hon.1, hon.2.1, hon.2.2, ho, hbn]
  rcases cls_sort f a with c | c | c | c
  · exact absurd c h8
  · have e1 : nanB (clsN f a) = false := by rcases c with c | c <;> rw [c] <;> rfl
    have e2 : infB (clsN f a) = true := by rcases c with c | c <;> rw [c] <;> rfl
    have e3 : zerB (clsN f a) = false := by rcases c with c | c <;> rw [c] <;> rfl
    rw [e1, e2, e3]
    simp only [Bool.or_self, Bool.false_eq_true, if_false, Bool.and_false, Bool.or_false, if_true]
    rw [infN_mk f _ hf]
    have hx : expN f a = 2 * eF f + 1 ∧ a % 2 ^ (pF f - 1) = 0 := by
      rcases cls_cases f a with ⟨e1, e2, e3⟩ | ⟨e1, e2, e3⟩ | ⟨e1, e2, e3⟩ | ⟨e1, e2, e3⟩ | ⟨e1, e2, e3⟩
      · exact ⟨e1, e2⟩
      · exfalso; rw [e3] at c; revert c; cases (a % 2 ^ (pF f - 1)).testBit (pF f - 2) <;> decide
      · exfalso; rw [e3] at c; revert c; cases negN f a <;> decide
      · exfalso; rw [e3] at c; revert c; cases negN f a <;> decide
      · exfalso; rw [e3] at c; revert c; cases negN f a <;> decide
    rw [← hpick, hx.1, hx.2]
  · have e1 : nanB (clsN f a) = false := by rcases c with c | c <;> rw [c] <;> rfl
    have e2 : infB (clsN f a) = false := by rcases c with c | c <;> rw [c] <;> rfl
    have e3 : zerB (clsN f a) = true := by rcases c with c | c <;> rw [c] <;> rfl
    rw [e1, e2, e3]
    simp only [Bool.or_self, Bool.false_eq_true, if_false, Bool.and_true, Bool.or_false, Bool.and_self, if_true]
    rw [zeroN_mk f _ hf]
    have hx : expN f a = 0 ∧ a % 2 ^ (pF f - 1) = 0 := by
      rcases cls_cases f a with ⟨e1, e2, e3⟩ | ⟨e1, e2, e3⟩ | ⟨e1, e2, e3⟩ | ⟨e1, e2, e3⟩ | ⟨e1, e2, e3⟩
      · exfalso; rw [e3] at c; revert c; cases negN f a <;> decide
      · exfalso; rw [e3] at c; revert c; cases (a % 2 ^ (pF f - 1)).testBit (pF f - 2) <;> decide
      · exact ⟨e1, e2⟩
      · exfalso; rw [e3] at c; revert c; cases negN f a <;> decide
      · exfalso; rw [e3] at c; revert c; cases negN f a <;> decide
    rw [← hpick, hx.1, hx.2]
  · have e1 : nanB (clsN f a) = false := by rcases c with c | c | c | c <;> rw [c] <;> rfl
    have e2 : infB (clsN f a) = false := by rcases c with c | c | c | c <;> rw [c] <;> rfl
    have e3 : zerB (clsN f a) = false := by rcases c with c | c | c | c <;> rw [c] <;> rfl
    rw [e1, e2, e3]
    simp only [Bool.or_self, Bool.false_eq_true, if_false, Bool.and_self]
    obtain ⟨hc, -⟩ := can_of f a h c
    rw [o3, o4]
    have h7 := (formK f hf).2.2.2.2.2.2.1
    rw [pack_exact f m (sigN f a) _ (xpN f a) _ _ hf hc (Or.inl ⟨by omega, by rw [show (xpN f a - (xpN f a + (1 - (pF f : Int)))).toNat = pF f - 1 by omega]⟩)]
    rw [fin_sign f a h c, hpick]
open Go.RowKit
theorem int_eq_false (c k : Nat) (h : c ≠ k) : (((c : Nat) : Int) == ((k : Nat) : Int)) = false := by rw [beq_eq_false_iff_ne]; omega
theorem int_eq_dec (c k : Nat) : (((c : Nat) : Int) == ((k : Nat) : Int)) = decide (c = k) := by rw [Bool.eq_iff_iff, beq_iff_eq, decide_eq_true_iff]; omega
theorem int_eq_true (c k : Nat) (h : c = k) : (((c : Nat) : Int) == ((k : Nat) : Int)) = true := by rw [h, beq_self_eq_true]
open Go.RowKit
theorem set_limbsR (a b : Nat) : setRow (limbs a) 0 (limbs b).toList = limbs b := set_all _ _ rfl
theorem run_index_r (a k : Nat) (hk : k < 6) (w : World) : (Instr.index 33 (.agg (limbs a)) (.int .i64 (k : Int))).run Tryd.prog w = .ok (.int .u64 (limb a k)) w := run_index_wide w a k hk
theorem set_w0 (b : Nat) : setRow (limbs 0) 0 (#[.int .u64 (limb b 0)] : Array Value).toList = limbs (limbN b 0) := by
  have h := limbs_put 0 (limbN b 0) 0 (by decide) (by decide) (limbN_lt b 0)
  rw [Nat.zero_add, Nat.mul_zero, Nat.pow_zero, Nat.mul_one] at h
  exact h
theorem set_w1 (b : Nat) : setRow (limbs (limbN b 0)) 1 (#[.int .u64 (limb b 1)] : Array Value).toList = limbs (b % 2 ^ (64 * 2)) := by
  have h := limbs_put (limbN b 0) (limbN b 1) 1 (by decide) (by rw [Nat.mul_one, ← B64]; exact limbN_lt b 0) (limbN_lt b 1)
  rw [mod_low b 1, mod_low b 0, Nat.mul_zero, Nat.pow_zero, Nat.mod_one, Nat.zero_add, Nat.mul_one]
  exact h
theorem ofBits_ret (b : Nat) (hb : b < 2 ^ (64 * 2)) : W (b % 2 ^ (64 * 2)) = W b := by rw [Nat.mod_eq_of_lt hb]
theorem shr_test (x i : Nat) (hx : x < 18446744073709551616) (hi : i < 64) : (Go.bits .and .u64 (((x / 2 ^ i : Nat) : Int)) 1 == 1) = x.testBit i := by
  have hd : x / 2 ^ i < 18446744073709551616 := Nat.lt_of_le_of_lt (Nat.div_le_self _ _) hx
  have := u64_and_nat (x / 2 ^ i) 1 hd (by decide)
  rw [show ((1 : Nat) : Int) = 1 from rfl] at this
  rw [this, Nat.and_one_is_mod, Nat.testBit_eq_decide_div_mod_eq, Bool.eq_iff_iff, beq_iff_eq, decide_eq_true_iff]
  omega
theorem walk10 {P : Prop} (h : P := by
  go_wp2_with (first
    | ((with_reducible show wpList _ _ _ (⟨_, .box _ _, _, _, _, _⟩ :: _) _ _); refine H.box rfl rfl (cells_agg _) ?_; (intro g w H; simp only [Act.put, q1_, q2_, q3_]))
    | (go_at_call 85; ((with_reducible refine (r7Emax_any f _).mono ?_); rintro e w ⟨rfl, hb⟩; replace H := H.call hb; clear hb))
    | (go_at_call 41; ((with_reducible refine (cR _).mono ?_); rintro e w ⟨rfl, hb⟩; replace H := H.call hb; clear hb))
    | (go_at_call 11; ((with_reducible refine (cE _).mono ?_); rintro e w ⟨rfl, hb⟩; replace H := H.call hb; clear hb))
    | (go_at_call 12; ((with_reducible refine (cT _).mono ?_); rintro e w' ⟨rfl, rfl⟩))
    )
  all_goals (first | (go_ret; exact ⟨ret_bool HR.out, H.below⟩) | (go_ret; exact ⟨rfl, H.below⟩) | (go_ret; exact ⟨ret_int HR.out, H.below⟩) | (go_ret; exact ⟨ret_bool (by rw [decide_eq_decide]; omega), H.below⟩) | (go_ret2; exact ⟨rfl, H.below⟩))) : P := h
theorem r1Bit_any (x i : Nat) (w : World) (hx : x < 18446744073709551616) (hi : i < 64) :
    Calls Tryd.prog 78 #[.int .u64 x, .int .i64 i] w fun e w' => e = .returned (.bool (x.testBit i)) ∧ Below w.heap.size w w' := by
  have H := Own.start w
  have e1 : (0 : Int) ≤ (i : Int) := by omega
  have e2 : (i : Int) < 64 := by omega
  have e3 : IntKind.u64.wrap (i : Int) = (i : Int) := by rw [IntKind.wrap_u64]; omega
  have e4 : min (i : Int).toNat 64 = i := by omega
  have HR := Lib.hid (shr_test x i hx hi)
  clear hx hi
  go_enter Tryd.func78, Tryd.ntmps78
  exact walk10
theorem r2Count_lo (x : Int) (w : World) (hx : x < 0) :
    Calls Tryd.prog 99 #[.int .i64 x] w fun e w' => e = .returned (.int .i64 0) ∧ Below w.heap.size w w' := by
  have H := Own.start w
  go_enter Tryd.func99, Tryd.ntmps99
  exact walk10
theorem r2Count_hi (x : Int) (w : World) (hx : 384 < x) :
    Calls Tryd.prog 99 #[.int .i64 x] w fun e w' => e = .returned (.int .i64 384) ∧ Below w.heap.size w w' := by
  have H := Own.start w
  go_enter Tryd.func99, Tryd.ntmps99
  exact walk10
theorem r2Count_in (x : Int) (w : World) (hx : 0 ≤ x) (hy : x ≤ 384) :
    Calls Tryd.prog 99 #[.int .i64 x] w fun e w' => e = .returned (.int .i64 x) ∧ Below w.heap.size w w' := by
  have H := Own.start w
  go_enter Tryd.func99, Tryd.ntmps99
  exact walk10
theorem r2Count_any (x : Int) (w : World) : Calls Tryd.prog 99 #[.int .i64 x] w fun e w' => e = .returned (.int .i64 (clip x : Nat)) ∧ Below w.heap.size w w' := by
  rcases Int.lt_or_le x 0 with h | h
  · rw [show ((clip x : Nat) : Int) = 0 by unfold clip; omega]; exact r2Count_lo x w h
  · rcases Int.lt_or_le 384 x with h2 | h2
    · rw [show ((clip x : Nat) : Int) = 384 by unfold clip; omega]; exact r2Count_hi x w h2
    · rw [show ((clip x : Nat) : Int) = x by unfold clip; omega]; exact r2Count_in x w h h2
theorem r2OfBits_any (b : Nat) (w : World) (hb : b < 2 ^ (64 * 2)) :
    Calls Tryd.prog 43 #[BV b] w fun e w' => e = .returned (W b) ∧ Below w.heap.size w w' := by
  have H := Own.start w
  have HR := Lib.hid (ofBits_ret b hb)
  clear hb
  go_enter Tryd.func43, Tryd.ntmps43
  go_wp2_with (first
    | ((with_reducible show wpList _ _ _ (⟨_, .box _ _, _, _, _, _⟩ :: _) _ _); refine H.box rfl rfl (cells_agg _) ?_; (intro g w H; simp only [Act.put, q1_, q2_, q3_]))
    | ((with_reducible show wpList _ _ _ (⟨_, .alloc 33, _, _, _, _⟩ :: _) _ _); refine H.mk0 rfl rW rfl ?_; (intro g w H; simp only [Act.put, q1_, q2_, q3_]))
    | ((with_reducible show wpList _ _ _ (⟨_, .load 27 _, _, _, _, _⟩ :: _) _ _); refine H.ld rfl rB rfl rfl v2_ v3_ (by rfl) ?_; simp only [Act.put, q1_, q2_, q3_])
    | ((with_reducible show wpList _ _ _ (⟨_, .load 33 _, _, _, _, _⟩ :: _) _ _); refine H.ld rfl rW rfl rfl v2_ v4_ (by rfl) ?_; simp only [Act.put, q1_, q2_, q3_])
    | ((with_reducible show wpList _ _ _ (⟨_, .load 25 _, _, _, _, _⟩ :: _) _ _); refine H.ld1 rfl oU rfl rfl v2_ v5_ ?_; simp only [Act.put, q1_, q2_, q3_])
    | ((with_reducible show wpList _ _ _ (⟨_, .store 25 _ _, _, _, _, _⟩ :: _) _ _); refine H.st1 rfl oU rfl rfl (cells_int _ _) v6_ (set_w0 _) (by rfl) (by exact one_of rfl) v7_ ?_; (intro w H; simp only [Act.put]))
    | ((with_reducible show wpList _ _ _ (⟨_, .store 25 _ _, _, _, _, _⟩ :: _) _ _); refine H.st1 rfl oU rfl rfl (cells_int _ _) v6_ (set_w1 _) (by rfl) (by exact one_of rfl) v7_ ?_; (intro w H; simp only [Act.put]))
    | ((with_reducible show wpList _ _ _ (⟨_, .store 33 _ _, _, _, _, _⟩ :: _) _ _); refine H.st rfl rW rfl rfl (cells_agg _) v6_ (set_limbsR _ _) (by rfl) (by exact one_of rfl) v7_ ?_; (intro w H; simp only [Act.put]))
    )
  all_goals
    refine bodyPost_ret (results_c rfl rfl (H.res rW v2_ v4_ (by rfl))) rfl ⟨?_, H.below⟩
    exact (congrArg Ending.returned HR.out)
theorem r2Bit_any (a i : Nat) (w : World) (hi : i < 384) :
    Calls Tryd.prog 67 #[W a, .int .i64 i] w fun e w' => e = .returned (.bool (a.testBit i)) ∧ Below w.heap.size w w' := by
  have H := Own.start w
  obtain ⟨q, hq⟩ : ∃ q : Nat, i / 64 = q := ⟨_, rfl⟩
  obtain ⟨r, hr⟩ : ∃ r : Nat, i % 64 = r := ⟨_, rfl⟩
  have h6 : q < 6 := by omega
  have h64 : r < 64 := by omega
  have e1 : (0 : Int) ≤ (i : Int) := by omega
  have e2 : (i : Int) < 384 := by omega
  have t1 : IntKind.i64.wrap ((i : Int).tdiv 64) = (q : Int) := by rw [Int.tdiv_eq_ediv_of_nonneg (by omega), show (i : Int) / 64 = (q : Int) by omega]; exact IntWalk.i64_in _ (by omega)
  have t2 : (i : Int).tmod 64 = (r : Int) := by rw [Int.tmod_eq_emod_of_nonneg (by omega)]; omega
  have t3 : (i : Int) / 64 = (q : Int) := by omega
  have t4 : (i : Int) % 64 = (r : Int) := by omega
  have cB := fun w => r1Bit_any (limbN a q) r w (limbN_lt a q) h64
  have hl : ((limbN a q : Nat) : Int) = limb a q := rfl
  rw [hl] at cB
  have HR := Lib.hid (show (limbN a q).testBit r = a.testBit i by rw [← hq, ← hr]; exact limb_bit a i)
  have ix := run_index_r a q h6
  have G : (limbs a)[q]? = some (.int .u64 (limb a q)) := limbs_get a q h6
  clear hq hr hi hl
  go_enter Tryd.func67, Tryd.ntmps67
  go_wp2_with (first
    | ((with_reducible show wpList _ _ _ (⟨_, .box _ _, _, _, _, _⟩ :: _) _ _); refine H.box rfl rfl (cells_agg _) ?_; (intro g w H; simp only [Act.put, q1_, q2_, q3_]))
    | ((with_reducible show wpList _ _ _ (⟨_, .load 33 _, _, _, _, _⟩ :: _) _ _); refine H.ld rfl rW rfl rfl v2_ v4_ (by rfl) ?_; simp only [Act.put, q1_, q2_, q3_])
    | ((with_reducible show wpList _ _ _ (⟨_, .load 25 _, _, _, _, _⟩ :: _) _ _); refine H.ld1 rfl oU rfl rfl v2_ v8_ ?_; simp only [Act.put, q1_, q2_, q3_])
    | ((with_reducible show wpList _ _ _ (⟨_, .store 33 _ _, _, _, _, _⟩ :: _) _ _); refine H.st rfl rW rfl rfl (cells_agg _) v6_ v9_ (by rfl) (by exact one_of rfl) v7_ ?_; (intro w H; simp only [Act.put]))
    | ((with_reducible show wpList _ _ _ (⟨_, .store 25 _ _, _, _, _, _⟩ :: _) _ _); refine H.st1 rfl oU rfl rfl (cells_int _ _) v6_ v10_ (by rfl) (by exact one_of rfl) v7_ ?_; (intro w H; simp only [Act.put]))
    | (go_at_call 78; ((with_reducible refine (cB _).mono ?_); rintro e w ⟨rfl, hb⟩; replace H := H.call hb; clear hb))
    )
  all_goals
    go_ret
    exact ⟨ret_bool HR.out, H.below⟩
open Go.RowKit
theorem set_fill_and (a b k : Nat) : setRow (fillTo (limbs a) (fun i => .int .u64 (limb (a &&& b) i)) k) k (#[.int .u64 (Go.bits .and .u64 (limb a k) (limb b k))] : Array Value).toList = fillTo (limbs a) (fun i => .int .u64 (limb (a &&& b) i)) (k + 1) := by
  rw [limb_and]; rfl
set_option maxHeartbeats 3200000 in
theorem r2Mask_any (x : Int) (w0 : World) :
    Calls Tryd.prog 80 #[.int .i64 x] w0 fun e w' => e = .returned (W (2 ^ clip x - 1)) ∧ Below w0.heap.size w0 w' := by
  have H := Own.start w0
  have cC := fun w => r2Count_any x w
  obtain ⟨n, hn⟩ : ∃ n, clip x = n := ⟨_, rfl⟩
  have hn4 : n ≤ 384 := by unfold clip at hn; omega
  rw [hn] at cC ⊢
  clear hn
  go_enter Tryd.func80, Tryd.ntmps80
  go_wp2_with (first
    | ((with_reducible show wpList _ _ _ (⟨some 3, .alloc 33, _, _, _, _⟩ :: _) _ _); refine H.mk0 rfl rW rfl ?_; (intro gb w H; simp only [Act.put, q1_, q2_, q3_]))
    | ((with_reducible show wpList _ _ _ (⟨some 2, .alloc 33, _, _, _, _⟩ :: _) _ _); refine H.mk0 rfl rW rfl ?_; (intro gr w H; simp only [Act.put, q1_, q2_, q3_]))
    | ((with_reducible show wpList _ _ _ (⟨_, .box _ _, _, _, _, _⟩ :: _) _ _); refine H.box rfl rfl (cells_agg _) ?_; (intro g w H; simp only [Act.put, q1_, q2_, q3_]))
    | ((with_reducible show wpList _ _ _ (⟨_, .alloc 33, _, _, _, _⟩ :: _) _ _); refine H.mk0 rfl rW rfl ?_; (intro g w H; simp only [Act.put, q1_, q2_, q3_]))
    | ((with_reducible show wpList _ _ _ (⟨_, .load 33 _, _, _, _, _⟩ :: _) _ _); refine H.ld rfl rW rfl rfl v2_ v4_ (by rfl) ?_; simp only [Act.put, q1_, q2_, q3_])
    | ((with_reducible show wpList _ _ _ (⟨_, .load 27 _, _, _, _, _⟩ :: _) _ _); refine H.ld rfl rB rfl rfl v2_ v3_ (by rfl) ?_; simp only [Act.put, q1_, q2_, q3_])
    | ((with_reducible show wpList _ _ _ (⟨_, .load 25 _, _, _, _, _⟩ :: _) _ _); refine H.ld1 rfl oU rfl rfl v2_ v5_ ?_; simp only [Act.put, q1_, q2_, q3_])
    | ((with_reducible show wpList _ _ _ (⟨_, .store 33 _ _, _, _, _, _⟩ :: _) _ _); refine H.st rfl rW rfl rfl (cells_agg _) v6_ v9_ (by rfl) (by exact one_of rfl) v11_ ?_; (intro w H; simp only [Act.put]))
    | ((with_reducible show wpList _ _ _ (⟨_, .store 25 _ _, _, _, _, _⟩ :: _) _ _); refine H.st1 rfl oU rfl rfl (cells_int _ _) v6_ v10_ (by rfl) (by exact one_of rfl) v11_ ?_; (intro w H; simp only [Act.put]))
    | (go_at_call 99; ((with_reducible refine (cC _).mono ?_); rintro e w ⟨rfl, hb⟩; replace H := H.call hb; clear hb))
    )
  go_loopw [4] (fun i wr => ∃ (k : Nat), k ≤ n ∧ i = .int .i64 k ∧ Own w0 wr [(gb, 33, limbs (2 ^ k - 1)), (gr, 33, limbs 0)]) (fun i _ => n - (intOf i).toNat)
  case atStart => exact ⟨0, by omega, rfl, H⟩
  case round =>
    clear H
    obtain ⟨k, hk, rfl, H⟩ := hrel
    by_cases hlt : k < n
    · have hd : decide ((k : Int) < (n : Int)) = true := by simp; omega
      have h1 := Lib.hid (mask_step k).1
      have h2 := Lib.hid (mask_step k).2
      obtain ⟨qi, hqi⟩ : ∃ qi : Nat, (k : Int) / 64 = qi := ⟨k / 64, by omega⟩
      obtain ⟨sh, hsh⟩ : ∃ sh : Nat, (k : Int) % 64 = sh := ⟨k % 64, by omega⟩
      have HM := Lib.hid (show k = 64 * qi + sh by omega)
      have hs64 : sh < 64 := by omega
      have hq6 : qi < 6 := by omega
      have hq6i : (qi : Int) < 6 := by omega
      have t1 : IntKind.i64.wrap ((k : Int).tdiv 64) = (qi : Int) := by rw [Int.tdiv_eq_ediv_of_nonneg (by omega), hqi]; exact IntWalk.i64_in _ (by omega)
      have t2 : (k : Int).tmod 64 = (sh : Int) := by rw [Int.tmod_eq_emod_of_nonneg (by omega), hsh]
      have t3 : IntKind.u64.wrap (sh : Int) = (sh : Int) := by rw [IntKind.wrap_u64]; omega
      have t4 : min sh 64 = sh := by omega
      obtain ⟨V, hV⟩ : ∃ V, 2 ^ k - 1 = V := ⟨_, rfl⟩
      rw [hV] at H h1 h2
      have G : (limbs V)[qi]? = some (.int .u64 (limb V qi)) := limbs_get V qi hq6
      clear hV cC
      go_wp2_with (first
    | ((with_reducible show wpList _ _ _ (⟨some 3, .alloc 33, _, _, _, _⟩ :: _) _ _); refine H.mk0 rfl rW rfl ?_; (intro gb w H; simp only [Act.put, q1_, q2_, q3_]))
    | ((with_reducible show wpList _ _ _ (⟨some 2, .alloc 33, _, _, _, _⟩ :: _) _ _); refine H.mk0 rfl rW rfl ?_; (intro gr w H; simp only [Act.put, q1_, q2_, q3_]))
    | ((with_reducible show wpList _ _ _ (⟨_, .box _ _, _, _, _, _⟩ :: _) _ _); refine H.box rfl rfl (cells_agg _) ?_; (intro g w H; simp only [Act.put, q1_, q2_, q3_]))
    | ((with_reducible show wpList _ _ _ (⟨_, .alloc 33, _, _, _, _⟩ :: _) _ _); refine H.mk0 rfl rW rfl ?_; (intro g w H; simp only [Act.put, q1_, q2_, q3_]))
    | ((with_reducible show wpList _ _ _ (⟨_, .load 33 _, _, _, _, _⟩ :: _) _ _); refine H.ld rfl rW rfl rfl v2_ v4_ (by rfl) ?_; simp only [Act.put, q1_, q2_, q3_])
    | ((with_reducible show wpList _ _ _ (⟨_, .load 27 _, _, _, _, _⟩ :: _) _ _); refine H.ld rfl rB rfl rfl v2_ v3_ (by rfl) ?_; simp only [Act.put, q1_, q2_, q3_])
    | ((with_reducible show wpList _ _ _ (⟨_, .load 25 _, _, _, _, _⟩ :: _) _ _); refine H.ld1 rfl oU rfl rfl v2_ v8_ ?_; simp only [Act.put, q1_, q2_, q3_])
    | ((with_reducible show wpList _ _ _ (⟨_, .store 33 _ _, _, _, _, _⟩ :: _) _ _); refine H.st rfl rW rfl rfl (cells_agg _) v6_ v9_ (by rfl) (by exact one_of rfl) v11_ ?_; (intro w H; simp only [Act.put]))
    | ((with_reducible show wpList _ _ _ (⟨_, .store 25 _ _, _, _, _, _⟩ :: _) _ _); refine H.st1 rfl oU rfl rfl (cells_int _ _) v6_ (set_bit_at _ k _ _ h2.out HM.out hs64 hq6) (by rfl) (by exact one_of rfl) v11_ ?_; (intro w H; simp only [Act.put]))
    | (go_at_call 99; ((with_reducible refine (cC _).mono ?_); rintro e w ⟨rfl, hb⟩; replace H := H.call hb; clear hb))
    )
      all_goals
        go_roundw
        case rel => exact ⟨k + 1, by omega, by go_num, by rw [h1.out]; exact H⟩
        case measure => simp [intOf] <;> omega
    · obtain rfl : k = n := by omega
      have hd : decide ((k : Int) < (k : Int)) = false := by simp
      clear hlt hk cC
      go_wp2_with (first
    | ((with_reducible show wpList _ _ _ (⟨some 3, .alloc 33, _, _, _, _⟩ :: _) _ _); refine H.mk0 rfl rW rfl ?_; (intro gb w H; simp only [Act.put, q1_, q2_, q3_]))
    | ((with_reducible show wpList _ _ _ (⟨some 2, .alloc 33, _, _, _, _⟩ :: _) _ _); refine H.mk0 rfl rW rfl ?_; (intro gr w H; simp only [Act.put, q1_, q2_, q3_]))
    | ((with_reducible show wpList _ _ _ (⟨_, .box _ _, _, _, _, _⟩ :: _) _ _); refine H.box rfl rfl (cells_agg _) ?_; (intro g w H; simp only [Act.put, q1_, q2_, q3_]))
    | ((with_reducible show wpList _ _ _ (⟨_, .alloc 33, _, _, _, _⟩ :: _) _ _); refine H.mk0 rfl rW rfl ?_; (intro g w H; simp only [Act.put, q1_, q2_, q3_]))
    | ((with_reducible show wpList _ _ _ (⟨_, .load 33 _, _, _, _, _⟩ :: _) _ _); refine H.ld rfl rW rfl rfl v2_ v4_ (by rfl) ?_; simp only [Act.put, q1_, q2_, q3_])
    | ((with_reducible show wpList _ _ _ (⟨_, .load 27 _, _, _, _, _⟩ :: _) _ _); refine H.ld rfl rB rfl rfl v2_ v3_ (by rfl) ?_; simp only [Act.put, q1_, q2_, q3_])
    | ((with_reducible show wpList _ _ _ (⟨_, .load 25 _, _, _, _, _⟩ :: _) _ _); refine H.ld1 rfl oU rfl rfl v2_ v5_ ?_; simp only [Act.put, q1_, q2_, q3_])
    | ((with_reducible show wpList _ _ _ (⟨_, .store 33 _ _, _, _, _, _⟩ :: _) _ _); refine H.st rfl rW rfl rfl (cells_agg _) v6_ (set_limbsR _ _) (by rfl) (by exact one_of rfl) v11_ ?_; (intro w H; simp only [Act.put]))
    | ((with_reducible show wpList _ _ _ (⟨_, .store 25 _ _, _, _, _, _⟩ :: _) _ _); refine H.st1 rfl oU rfl rfl (cells_int _ _) v6_ v10_ (by rfl) (by exact one_of rfl) v11_ ?_; (intro w H; simp only [Act.put]))
    | (go_at_call 99; ((with_reducible refine (cC _).mono ?_); rintro e w ⟨rfl, hb⟩; replace H := H.call hb; clear hb))
    )
      refine bodyPost_ret (results_c rfl rfl (H.res rW v2_ v4_ (by rfl))) rfl ⟨?_, H.below⟩
      rfl
set_option maxHeartbeats 3200000 in
theorem r2And_any (a b : Nat) (w0 : World) :
    Calls Tryd.prog 79 #[W a, W b] w0 fun e w' => e = .returned (W (a &&& b)) ∧ Below w0.heap.size w0 w' := by
  have H := Own.start w0
  go_enter Tryd.func79, Tryd.ntmps79
  go_wp2_with (first
    | ((with_reducible show wpList _ _ _ (⟨some 2, .box _ _, _, _, _, _⟩ :: _) _ _); refine H.box rfl rfl (cells_agg _) ?_; (intro ga w H; simp only [Act.put, q1_, q2_, q3_]))
    | ((with_reducible show wpList _ _ _ (⟨some 3, .box _ _, _, _, _, _⟩ :: _) _ _); refine H.box rfl rfl (cells_agg _) ?_; (intro gb w H; simp only [Act.put, q1_, q2_, q3_]))
    | ((with_reducible show wpList _ _ _ (⟨some 4, .alloc 33, _, _, _, _⟩ :: _) _ _); refine H.mk0 rfl rW rfl ?_; (intro gr w H; simp only [Act.put, q1_, q2_, q3_]))
    | ((with_reducible show wpList _ _ _ (⟨_, .box _ _, _, _, _, _⟩ :: _) _ _); refine H.box rfl rfl (cells_agg _) ?_; (intro g w H; simp only [Act.put, q1_, q2_, q3_]))
    | ((with_reducible show wpList _ _ _ (⟨_, .alloc 33, _, _, _, _⟩ :: _) _ _); refine H.mk0 rfl rW rfl ?_; (intro g w H; simp only [Act.put, q1_, q2_, q3_]))
    | ((with_reducible show wpList _ _ _ (⟨_, .load 33 _, _, _, _, _⟩ :: _) _ _); refine H.ld rfl rW rfl rfl v2_ v4_ (by rfl) ?_; simp only [Act.put, q1_, q2_, q3_])
    | ((with_reducible show wpList _ _ _ (⟨_, .load 25 _, _, _, _, _⟩ :: _) _ _); refine H.ld1 rfl oU rfl rfl v2_ v5_ ?_; simp only [Act.put, q1_, q2_, q3_])
    | ((with_reducible show wpList _ _ _ (⟨_, .store 33 _ _, _, _, _, _⟩ :: _) _ _); refine H.st rfl rW rfl rfl (cells_agg _) v6_ v9_ (by rfl) (by exact one_of rfl) v11_ ?_; (intro w H; simp only [Act.put]))
    | ((with_reducible show wpList _ _ _ (⟨_, .store 25 _ _, _, _, _, _⟩ :: _) _ _); refine H.st1 rfl oU rfl rfl (cells_int _ _) v6_ v10_ (by rfl) (by exact one_of rfl) v11_ ?_; (intro w H; simp only [Act.put]))
    )
  go_loopw [5] (fun i wr => ∃ (k : Nat), k ≤ 6 ∧ i = .int .i64 k ∧ Own w0 wr [(gr, 33, limbs 0), (gb, 33, limbs b), (ga, 33, fillTo (limbs a) (fun i => .int .u64 (limb (a &&& b) i)) k)]) (fun i _ => 6 - (intOf i).toNat)
  case atStart => exact ⟨0, by omega, rfl, H⟩
  case round =>
    clear H
    obtain ⟨k, hk, rfl, H⟩ := hrel
    by_cases hlt : k < 6
    · have hd : decide ((k : Int) < 6) = true := by simp; omega
      have G1 : (fillTo (limbs a) (fun i => .int .u64 (limb (a &&& b) i)) k)[k]? = some (.int .u64 (limb a k)) := (fillTo_hi _ _ _ _ (Nat.le_refl _)).trans (limbs_get a k hlt)
      have G2 : (limbs b)[k]? = some (.int .u64 (limb b k)) := limbs_get b k hlt
      have hlti : (k : Int) < 6 := by omega
      go_wp2_with (first
    | ((with_reducible show wpList _ _ _ (⟨some 2, .box _ _, _, _, _, _⟩ :: _) _ _); refine H.box rfl rfl (cells_agg _) ?_; (intro ga w H; simp only [Act.put, q1_, q2_, q3_]))
    | ((with_reducible show wpList _ _ _ (⟨some 3, .box _ _, _, _, _, _⟩ :: _) _ _); refine H.box rfl rfl (cells_agg _) ?_; (intro gb w H; simp only [Act.put, q1_, q2_, q3_]))
    | ((with_reducible show wpList _ _ _ (⟨some 4, .alloc 33, _, _, _, _⟩ :: _) _ _); refine H.mk0 rfl rW rfl ?_; (intro gr w H; simp only [Act.put, q1_, q2_, q3_]))
    | ((with_reducible show wpList _ _ _ (⟨_, .box _ _, _, _, _, _⟩ :: _) _ _); refine H.box rfl rfl (cells_agg _) ?_; (intro g w H; simp only [Act.put, q1_, q2_, q3_]))
    | ((with_reducible show wpList _ _ _ (⟨_, .alloc 33, _, _, _, _⟩ :: _) _ _); refine H.mk0 rfl rW rfl ?_; (intro g w H; simp only [Act.put, q1_, q2_, q3_]))
    | ((with_reducible show wpList _ _ _ (⟨_, .load 33 _, _, _, _, _⟩ :: _) _ _); refine H.ld rfl rW rfl rfl v2_ v4_ (by rfl) ?_; simp only [Act.put, q1_, q2_, q3_])
    | ((with_reducible show wpList _ _ _ (⟨_, .load 25 _, _, _, _, _⟩ :: _) _ _); refine H.ld1 rfl oU rfl rfl v2_ v12_ ?_; simp only [Act.put, q1_, q2_, q3_])
    | ((with_reducible show wpList _ _ _ (⟨_, .store 33 _ _, _, _, _, _⟩ :: _) _ _); refine H.st rfl rW rfl rfl (cells_agg _) v6_ v9_ (by rfl) (by exact one_of rfl) v11_ ?_; (intro w H; simp only [Act.put]))
    | ((with_reducible show wpList _ _ _ (⟨_, .store 25 _ _, _, _, _, _⟩ :: _) _ _); refine H.st1 rfl oU rfl rfl (cells_int _ _) v6_ (set_fill_and _ _ _) (by rfl) (by exact one_of rfl) v11_ ?_; (intro w H; simp only [Act.put]))
    | ((with_reducible show Code.wp _ (.region 4 _ true) _ _ _); refine H.heldSub rfl (List.Sublist.cons_cons _ (List.Sublist.cons_cons _ (List.Sublist.cons _ (List.Sublist.refl _)))) ?_; intro H; refine H.takeRun v13_ 0 rfl (by kernel_rfl) (by kernel_rfl) (by kernel_rfl) (fun _ _ _ _ h => h) rfl v14_ ?_; (try simp only [Act.put, q1_, q2_, q3_]); (try simp only [q4_, q5_, q6_]); refine H.takeRun v13_ 1 rfl (by kernel_rfl) (by kernel_rfl) (by kernel_rfl) (fun _ _ _ _ h => h) rfl v14_ ?_; (try simp only [Act.put, q1_, q2_, q3_]); (try simp only [q4_, q5_, q6_]); refine H.takeRun v13_ 2 rfl (by kernel_rfl) (by kernel_rfl) (by kernel_rfl) (fun _ _ _ _ h => h) rfl v14_ ?_; (try simp only [Act.put, q1_, q2_, q3_]); (try simp only [q4_, q5_, q6_]); refine H.takeRun v13_ 4 rfl (by kernel_rfl) (by kernel_rfl) (by kernel_rfl) (fun _ _ _ _ h => h) rfl v14_ ?_; (try simp only [Act.put, q1_, q2_, q3_]); (try simp only [q4_, q5_, q6_]); refine H.takeRun v13_ 5 rfl (by kernel_rfl) (by kernel_rfl) (by kernel_rfl) (fun _ _ _ _ h => h) rfl v14_ ?_; (try simp only [Act.put, q1_, q2_, q3_]); (try simp only [q4_, q5_, q6_]); refine H.tk1 v13_ 6 rfl (by kernel_rfl) (by kernel_rfl) (by kernel_rfl) (fun _ _ _ _ h => h) rfl oU rfl rfl v2_ v12_ ?_; (try simp only [Act.put, q1_, q2_, q3_]); (try simp only [q4_, q5_, q6_]); refine held_one (i := 3) (by kernel_rfl) rfl rfl ?_; refine H.old1 oU rfl rfl v2_ v12_ ?_; refine H.next v13_ ?_; (try simp only [Act.put, q1_, q2_, q3_]); (try simp only [q4_, q5_, q6_]); refine H.takeRun v13_ 7 rfl (by kernel_rfl) (by kernel_rfl) (by kernel_rfl) (fun _ _ _ _ h => h) rfl v14_ ?_; (try simp only [Act.put, q1_, q2_, q3_]); (try simp only [q4_, q5_, q6_]); refine H.takeRun v13_ 8 rfl (by kernel_rfl) (by kernel_rfl) (by kernel_rfl) (fun _ _ _ _ h => h) rfl v14_ ?_; (try simp only [Act.put, q1_, q2_, q3_]); (try simp only [q4_, q5_, q6_]); refine held_one (i := 9) (by kernel_rfl) rfl rfl ?_; refine H.ost1 oU rfl rfl (cells_int _ _) v6_ (set_fill_and _ _ _) (by rfl) (by exact one_of rfl) v11_ ?_; intro w H; refine H.next v13_ ?_; (try simp only [Act.put]); refine wpAnyH_done (by kernel_rfl) ?_ _)
    )
      all_goals
        go_roundw
        case rel => exact ⟨k + 1, by omega, by go_num, H⟩
        case measure => simp [intOf] <;> omega
    · obtain rfl : k = 6 := by omega
      rw [fillTo_all (limbs a) _ (a &&& b) (limbs_size a) (fun _ _ => rfl)] at H
      clear hlt hk
      go_wp2_with (first
    | ((with_reducible show wpList _ _ _ (⟨some 2, .box _ _, _, _, _, _⟩ :: _) _ _); refine H.box rfl rfl (cells_agg _) ?_; (intro ga w H; simp only [Act.put, q1_, q2_, q3_]))
    | ((with_reducible show wpList _ _ _ (⟨some 3, .box _ _, _, _, _, _⟩ :: _) _ _); refine H.box rfl rfl (cells_agg _) ?_; (intro gb w H; simp only [Act.put, q1_, q2_, q3_]))
    | ((with_reducible show wpList _ _ _ (⟨some 4, .alloc 33, _, _, _, _⟩ :: _) _ _); refine H.mk0 rfl rW rfl ?_; (intro gr w H; simp only [Act.put, q1_, q2_, q3_]))
    | ((with_reducible show wpList _ _ _ (⟨_, .box _ _, _, _, _, _⟩ :: _) _ _); refine H.box rfl rfl (cells_agg _) ?_; (intro g w H; simp only [Act.put, q1_, q2_, q3_]))
    | ((with_reducible show wpList _ _ _ (⟨_, .alloc 33, _, _, _, _⟩ :: _) _ _); refine H.mk0 rfl rW rfl ?_; (intro g w H; simp only [Act.put, q1_, q2_, q3_]))
    | ((with_reducible show wpList _ _ _ (⟨_, .load 33 _, _, _, _, _⟩ :: _) _ _); refine H.ld rfl rW rfl rfl v2_ v4_ (by rfl) ?_; simp only [Act.put, q1_, q2_, q3_])
    | ((with_reducible show wpList _ _ _ (⟨_, .load 25 _, _, _, _, _⟩ :: _) _ _); refine H.ld1 rfl oU rfl rfl v2_ v5_ ?_; simp only [Act.put, q1_, q2_, q3_])
    | ((with_reducible show wpList _ _ _ (⟨_, .store 33 _ _, _, _, _, _⟩ :: _) _ _); refine H.st rfl rW rfl rfl (cells_agg _) v6_ (set_limbsR _ _) (by rfl) (by exact one_of rfl) v11_ ?_; (intro w H; simp only [Act.put]))
    | ((with_reducible show wpList _ _ _ (⟨_, .store 25 _ _, _, _, _, _⟩ :: _) _ _); refine H.st1 rfl oU rfl rfl (cells_int _ _) v6_ v10_ (by rfl) (by exact one_of rfl) v11_ ?_; (intro w H; simp only [Act.put]))
    )
      refine bodyPost_ret (results_c rfl rfl (H.res rW v2_ v4_ (by rfl))) rfl ⟨?_, H.below⟩
      rfl
set_option maxHeartbeats 3200000 in
theorem r2Right_any (a : Nat) (x : Int) (w0 : World) (ha : a < top6) :
    Calls Tryd.prog 81 #[W a, .int .i64 x] w0 fun e w' => e = .returned (.tuple #[W (a / 2 ^ clip x), .bool (lostR a (clip x))]) ∧ Below w0.heap.size w0 w' := by
  have H := Own.start w0
  have cC := fun w => r2Count_any x w
  obtain ⟨n, hn⟩ : ∃ n, clip x = n := ⟨_, rfl⟩
  have hn4 : n ≤ 384 := by unfold clip at hn; omega
  rw [hn] at cC ⊢
  clear hn
  have HA := Lib.hid ha
  clear ha
  go_enter Tryd.func81, Tryd.ntmps81
  go_wp2_with (first
    | ((with_reducible show wpList _ _ _ (⟨some 2, .box _ _, _, _, _, _⟩ :: _) _ _); refine H.box rfl rfl (cells_agg _) ?_; (intro ga w H; simp only [Act.put, q1_, q2_, q3_]))
    | ((with_reducible show wpList _ _ _ (⟨some 4, .alloc 33, _, _, _, _⟩ :: _) _ _); refine H.mk0 rfl rW rfl ?_; (intro gr w H; simp only [Act.put, q1_, q2_, q3_]))
    | ((with_reducible show wpList _ _ _ (⟨some 6, .alloc 33, _, _, _, _⟩ :: _) _ _); refine H.mk0 rfl rW rfl ?_; (intro gb w H; simp only [Act.put, q1_, q2_, q3_]))
    | ((with_reducible show wpList _ _ _ (⟨_, .box _ _, _, _, _, _⟩ :: _) _ _); refine H.box rfl rfl (cells_agg _) ?_; (intro g w H; simp only [Act.put, q1_, q2_, q3_]))
    | ((with_reducible show wpList _ _ _ (⟨_, .alloc 33, _, _, _, _⟩ :: _) _ _); refine H.mk0 rfl rW rfl ?_; (intro g w H; simp only [Act.put, q1_, q2_, q3_]))
    | ((with_reducible show wpList _ _ _ (⟨_, .load 33 _, _, _, _, _⟩ :: _) _ _); refine H.ld rfl rW rfl rfl v2_ v4_ (by rfl) ?_; simp only [Act.put, q1_, q2_, q3_])
    | ((with_reducible show wpList _ _ _ (⟨_, .load 25 _, _, _, _, _⟩ :: _) _ _); refine H.ld1 rfl oU rfl rfl v2_ v5_ ?_; simp only [Act.put, q1_, q2_, q3_])
    | ((with_reducible show wpList _ _ _ (⟨_, .store 33 _ _, _, _, _, _⟩ :: _) _ _); refine H.st rfl rW rfl rfl (cells_agg _) v6_ v9_ (by rfl) (by exact one_of rfl) v11_ ?_; (intro w H; simp only [Act.put]))
    | ((with_reducible show wpList _ _ _ (⟨_, .store 25 _ _, _, _, _, _⟩ :: _) _ _); refine H.st1 rfl oU rfl rfl (cells_int _ _) v6_ v10_ (by rfl) (by exact one_of rfl) v11_ ?_; (intro w H; simp only [Act.put]))
    | (go_at_call 99; ((with_reducible refine (cC _).mono ?_); rintro e w ⟨rfl, hb⟩; replace H := H.call hb; clear hb))
    | (go_at_call 67; ((with_reducible refine (cB _).mono ?_); rintro e w ⟨rfl, hb⟩; replace H := H.call hb; clear hb))
    )
  go_loopw [7, 8] (fun l i wr => ∃ (k : Nat), k ≤ 384 ∧ i = .int .i64 k ∧ l = .bool (lostRi a n k) ∧ Own w0 wr [(gb, 33, limbs (a % 2 ^ k / 2 ^ n)), (gr, 33, limbs 0), (ga, 33, limbs a)]) (fun _ i _ => 384 - (intOf i).toNat)
  case atStart => exact ⟨0, by omega, rfl, by rw [lostRi_zero], by rw [Nat.pow_zero, Nat.mod_one, Nat.zero_div]; exact H⟩
  case round =>
    clear H
    obtain ⟨k, hk, rfl, rfl, H⟩ := hrel
    by_cases hlt : k < 384
    · have hd : decide ((k : Int) < 384) = true := by simp; omega
      have hlti : (k : Int) < 384 := by omega
      have cB := fun w => r2Bit_any a k w hlt
      cases hb : a.testBit k
      · rw [hb] at cB
        have h1 := Lib.hid (lostRi_f a n k hb)
        have h2 := Lib.hid (bit_f a k hb)
        clear hb cC
        go_wp2_with (first
    | ((with_reducible show wpList _ _ _ (⟨some 2, .box _ _, _, _, _, _⟩ :: _) _ _); refine H.box rfl rfl (cells_agg _) ?_; (intro ga w H; simp only [Act.put, q1_, q2_, q3_]))
    | ((with_reducible show wpList _ _ _ (⟨some 4, .alloc 33, _, _, _, _⟩ :: _) _ _); refine H.mk0 rfl rW rfl ?_; (intro gr w H; simp only [Act.put, q1_, q2_, q3_]))
    | ((with_reducible show wpList _ _ _ (⟨some 6, .alloc 33, _, _, _, _⟩ :: _) _ _); refine H.mk0 rfl rW rfl ?_; (intro gb w H; simp only [Act.put, q1_, q2_, q3_]))
    | ((with_reducible show wpList _ _ _ (⟨_, .box _ _, _, _, _, _⟩ :: _) _ _); refine H.box rfl rfl (cells_agg _) ?_; (intro g w H; simp only [Act.put, q1_, q2_, q3_]))
    | ((with_reducible show wpList _ _ _ (⟨_, .alloc 33, _, _, _, _⟩ :: _) _ _); refine H.mk0 rfl rW rfl ?_; (intro g w H; simp only [Act.put, q1_, q2_, q3_]))
    | ((with_reducible show wpList _ _ _ (⟨_, .load 33 _, _, _, _, _⟩ :: _) _ _); refine H.ld rfl rW rfl rfl v2_ v4_ (by rfl) ?_; simp only [Act.put, q1_, q2_, q3_])
    | ((with_reducible show wpList _ _ _ (⟨_, .load 25 _, _, _, _, _⟩ :: _) _ _); refine H.ld1 rfl oU rfl rfl v2_ v5_ ?_; simp only [Act.put, q1_, q2_, q3_])
    | ((with_reducible show wpList _ _ _ (⟨_, .store 33 _ _, _, _, _, _⟩ :: _) _ _); refine H.st rfl rW rfl rfl (cells_agg _) v6_ v9_ (by rfl) (by exact one_of rfl) v11_ ?_; (intro w H; simp only [Act.put]))
    | ((with_reducible show wpList _ _ _ (⟨_, .store 25 _ _, _, _, _, _⟩ :: _) _ _); refine H.st1 rfl oU rfl rfl (cells_int _ _) v6_ v10_ (by rfl) (by exact one_of rfl) v11_ ?_; (intro w H; simp only [Act.put]))
    | (go_at_call 99; ((with_reducible refine (cC _).mono ?_); rintro e w ⟨rfl, hb⟩; replace H := H.call hb; clear hb))
    | (go_at_call 67; ((with_reducible refine (cB _).mono ?_); rintro e w ⟨rfl, hb⟩; replace H := H.call hb; clear hb))
    )
        all_goals
          go_roundw
          case rel => exact ⟨k + 1, by omega, by go_num, by rw [h1.out], by rw [h2.out]; exact H⟩
          case measure => simp [intOf] <;> omega
      · rw [hb] at cB
        by_cases hnk : n ≤ k
        · have h1 := Lib.hid (lostRi_ge a n k hnk)
          have h2 := Lib.hid (right_t a n k hb hnk).1
          have h3 := Lib.hid (right_t a n k hb hnk).2
          obtain ⟨j, hj⟩ : ∃ j, k - n = j := ⟨_, rfl⟩
          have e0 : (k : Int) - (n : Int) = (j : Int) := by omega
          have e1 : IntKind.i64.wrap ((k : Int) - (n : Int)) = (j : Int) := by rw [e0]; exact IntWalk.i64_in _ (by omega)
          have hge : (n : Int) ≤ (k : Int) := by omega
          have hdg : decide ((n : Int) ≤ (k : Int)) = true := by simp; omega
          obtain ⟨qi, hqi⟩ : ∃ qi : Nat, (j : Int) / 64 = qi := ⟨j / 64, by omega⟩
          obtain ⟨sh, hsh⟩ : ∃ sh : Nat, (j : Int) % 64 = sh := ⟨j % 64, by omega⟩
          have HM := Lib.hid (show j = 64 * qi + sh by omega)
          have hs64 : sh < 64 := by omega
          have hq6 : qi < 6 := by omega
          have hq6i : (qi : Int) < 6 := by omega
          have t1 : IntKind.i64.wrap ((j : Int).tdiv 64) = (qi : Int) := by rw [Int.tdiv_eq_ediv_of_nonneg (by omega), hqi]; exact IntWalk.i64_in _ (by omega)
          have t2 : (j : Int).tmod 64 = (sh : Int) := by rw [Int.tmod_eq_emod_of_nonneg (by omega), hsh]
          have t3 : IntKind.u64.wrap (sh : Int) = (sh : Int) := by rw [IntKind.wrap_u64]; omega
          have t4 : min sh 64 = sh := by omega
          rw [hj] at h2 h3
          obtain ⟨V, hV⟩ : ∃ V, a % 2 ^ k / 2 ^ n = V := ⟨_, rfl⟩
          rw [hV] at H h2 h3
          have G : (limbs V)[qi]? = some (.int .u64 (limb V qi)) := limbs_get V qi hq6
          clear hV cC hb hj hnk
          go_wp2_with (first
    | ((with_reducible show wpList _ _ _ (⟨some 2, .box _ _, _, _, _, _⟩ :: _) _ _); refine H.box rfl rfl (cells_agg _) ?_; (intro ga w H; simp only [Act.put, q1_, q2_, q3_]))
    | ((with_reducible show wpList _ _ _ (⟨some 4, .alloc 33, _, _, _, _⟩ :: _) _ _); refine H.mk0 rfl rW rfl ?_; (intro gr w H; simp only [Act.put, q1_, q2_, q3_]))
    | ((with_reducible show wpList _ _ _ (⟨some 6, .alloc 33, _, _, _, _⟩ :: _) _ _); refine H.mk0 rfl rW rfl ?_; (intro gb w H; simp only [Act.put, q1_, q2_, q3_]))
    | ((with_reducible show wpList _ _ _ (⟨_, .box _ _, _, _, _, _⟩ :: _) _ _); refine H.box rfl rfl (cells_agg _) ?_; (intro g w H; simp only [Act.put, q1_, q2_, q3_]))
    | ((with_reducible show wpList _ _ _ (⟨_, .alloc 33, _, _, _, _⟩ :: _) _ _); refine H.mk0 rfl rW rfl ?_; (intro g w H; simp only [Act.put, q1_, q2_, q3_]))
    | ((with_reducible show wpList _ _ _ (⟨_, .load 33 _, _, _, _, _⟩ :: _) _ _); refine H.ld rfl rW rfl rfl v2_ v4_ (by rfl) ?_; simp only [Act.put, q1_, q2_, q3_])
    | ((with_reducible show wpList _ _ _ (⟨_, .load 25 _, _, _, _, _⟩ :: _) _ _); refine H.ld1 rfl oU rfl rfl v2_ v8_ ?_; simp only [Act.put, q1_, q2_, q3_])
    | ((with_reducible show wpList _ _ _ (⟨_, .store 33 _ _, _, _, _, _⟩ :: _) _ _); refine H.st rfl rW rfl rfl (cells_agg _) v6_ v9_ (by rfl) (by exact one_of rfl) v11_ ?_; (intro w H; simp only [Act.put]))
    | ((with_reducible show wpList _ _ _ (⟨_, .store 25 _ _, _, _, _, _⟩ :: _) _ _); refine H.st1 rfl oU rfl rfl (cells_int _ _) v6_ (set_bit_at _ _ _ _ h3.out HM.out hs64 hq6) (by rfl) (by exact one_of rfl) v11_ ?_; (intro w H; simp only [Act.put]))
    | (go_at_call 99; ((with_reducible refine (cC _).mono ?_); rintro e w ⟨rfl, hb⟩; replace H := H.call hb; clear hb))
    | (go_at_call 67; ((with_reducible refine (cB _).mono ?_); rintro e w ⟨rfl, hb⟩; replace H := H.call hb; clear hb))
    )
          all_goals
            go_roundw
            case rel => exact ⟨k + 1, by omega, by go_num, by rw [h1.out], by rw [h2.out]; exact H⟩
            case measure => simp [intOf] <;> omega
        · have h1 := Lib.hid (lostRi_t a n k hb (by omega))
          have h2 := Lib.hid (show a % 2 ^ (k + 1) / 2 ^ n = a % 2 ^ k / 2 ^ n by rw [right_lo a n (k + 1) (by omega), right_lo a n k (by omega)])
          have hge : (k : Int) < (n : Int) := by omega
          have hdg : decide ((n : Int) ≤ (k : Int)) = false := by simp; omega
          clear cC hb hnk
          go_wp2_with (first
    | ((with_reducible show wpList _ _ _ (⟨some 2, .box _ _, _, _, _, _⟩ :: _) _ _); refine H.box rfl rfl (cells_agg _) ?_; (intro ga w H; simp only [Act.put, q1_, q2_, q3_]))
    | ((with_reducible show wpList _ _ _ (⟨some 4, .alloc 33, _, _, _, _⟩ :: _) _ _); refine H.mk0 rfl rW rfl ?_; (intro gr w H; simp only [Act.put, q1_, q2_, q3_]))
    | ((with_reducible show wpList _ _ _ (⟨some 6, .alloc 33, _, _, _, _⟩ :: _) _ _); refine H.mk0 rfl rW rfl ?_; (intro gb w H; simp only [Act.put, q1_, q2_, q3_]))
    | ((with_reducible show wpList _ _ _ (⟨_, .box _ _, _, _, _, _⟩ :: _) _ _); refine H.box rfl rfl (cells_agg _) ?_; (intro g w H; simp only [Act.put, q1_, q2_, q3_]))
    | ((with_reducible show wpList _ _ _ (⟨_, .alloc 33, _, _, _, _⟩ :: _) _ _); refine H.mk0 rfl rW rfl ?_; (intro g w H; simp only [Act.put, q1_, q2_, q3_]))
    | ((with_reducible show wpList _ _ _ (⟨_, .load 33 _, _, _, _, _⟩ :: _) _ _); refine H.ld rfl rW rfl rfl v2_ v4_ (by rfl) ?_; simp only [Act.put, q1_, q2_, q3_])
    | ((with_reducible show wpList _ _ _ (⟨_, .load 25 _, _, _, _, _⟩ :: _) _ _); refine H.ld1 rfl oU rfl rfl v2_ v5_ ?_; simp only [Act.put, q1_, q2_, q3_])
    | ((with_reducible show wpList _ _ _ (⟨_, .store 33 _ _, _, _, _, _⟩ :: _) _ _); refine H.st rfl rW rfl rfl (cells_agg _) v6_ v9_ (by rfl) (by exact one_of rfl) v11_ ?_; (intro w H; simp only [Act.put]))
    | ((with_reducible show wpList _ _ _ (⟨_, .store 25 _ _, _, _, _, _⟩ :: _) _ _); refine H.st1 rfl oU rfl rfl (cells_int _ _) v6_ v10_ (by rfl) (by exact one_of rfl) v11_ ?_; (intro w H; simp only [Act.put]))
    | (go_at_call 99; ((with_reducible refine (cC _).mono ?_); rintro e w ⟨rfl, hb⟩; replace H := H.call hb; clear hb))
    | (go_at_call 67; ((with_reducible refine (cB _).mono ?_); rintro e w ⟨rfl, hb⟩; replace H := H.call hb; clear hb))
    )
          all_goals
            go_roundw
            case rel => exact ⟨k + 1, by omega, by go_num, by rw [h1.out], by rw [h2.out]; exact H⟩
            case measure => simp [intOf] <;> omega
    · have hk384 : k = 384 := by omega
      rw [mod_384 a k hk384 HA.out] at H
      have h1 := Lib.hid (show lostRi a n k = lostR a n by rw [lostRi_all a n k (by omega)]; exact low_any a n HA.out hn4)
      generalize lostRi a n k = l at *
      subst hk384
      clear cC hlt hk
      go_wp2_with (first
    | ((with_reducible show wpList _ _ _ (⟨some 2, .box _ _, _, _, _, _⟩ :: _) _ _); refine H.box rfl rfl (cells_agg _) ?_; (intro ga w H; simp only [Act.put, q1_, q2_, q3_]))
    | ((with_reducible show wpList _ _ _ (⟨some 4, .alloc 33, _, _, _, _⟩ :: _) _ _); refine H.mk0 rfl rW rfl ?_; (intro gr w H; simp only [Act.put, q1_, q2_, q3_]))
    | ((with_reducible show wpList _ _ _ (⟨some 6, .alloc 33, _, _, _, _⟩ :: _) _ _); refine H.mk0 rfl rW rfl ?_; (intro gb w H; simp only [Act.put, q1_, q2_, q3_]))
    | ((with_reducible show wpList _ _ _ (⟨_, .box _ _, _, _, _, _⟩ :: _) _ _); refine H.box rfl rfl (cells_agg _) ?_; (intro g w H; simp only [Act.put, q1_, q2_, q3_]))
    | ((with_reducible show wpList _ _ _ (⟨_, .alloc 33, _, _, _, _⟩ :: _) _ _); refine H.mk0 rfl rW rfl ?_; (intro g w H; simp only [Act.put, q1_, q2_, q3_]))
    | ((with_reducible show wpList _ _ _ (⟨_, .load 33 _, _, _, _, _⟩ :: _) _ _); refine H.ld rfl rW rfl rfl v2_ v4_ (by rfl) ?_; simp only [Act.put, q1_, q2_, q3_])
    | ((with_reducible show wpList _ _ _ (⟨_, .load 25 _, _, _, _, _⟩ :: _) _ _); refine H.ld1 rfl oU rfl rfl v2_ v5_ ?_; simp only [Act.put, q1_, q2_, q3_])
    | ((with_reducible show wpList _ _ _ (⟨_, .store 33 _ _, _, _, _, _⟩ :: _) _ _); refine H.st rfl rW rfl rfl (cells_agg _) v6_ (set_limbsR _ _) (by rfl) (by exact one_of rfl) v11_ ?_; (intro w H; simp only [Act.put]))
    | ((with_reducible show wpList _ _ _ (⟨_, .store 25 _ _, _, _, _, _⟩ :: _) _ _); refine H.st1 rfl oU rfl rfl (cells_int _ _) v6_ v10_ (by rfl) (by exact one_of rfl) v11_ ?_; (intro w H; simp only [Act.put]))
    | (go_at_call 99; ((with_reducible refine (cC _).mono ?_); rintro e w ⟨rfl, hb⟩; replace H := H.call hb; clear hb))
    | (go_at_call 67; ((with_reducible refine (cB _).mono ?_); rintro e w ⟨rfl, hb⟩; replace H := H.call hb; clear hb))
    )
      refine bodyPost_ret (results_ct rfl rfl (H.res rW v2_ (ext_limbs _) (by rfl))) rfl ⟨?_, H.below⟩
      rw [h1.out]; rfl
open Go.RowKit
theorem r7Width_0 (w : World) :
    Calls Tryd.prog 44 #[.int .u8 0] w fun e w' => e = .returned (.int .i64 32) ∧ Below w.heap.size w w' := by
  have H := Own.start w
  go_enter Tryd.func44, Tryd.ntmps44
  exact walk10
theorem r7Width_1 (w : World) :
    Calls Tryd.prog 44 #[.int .u8 1] w fun e w' => e = .returned (.int .i64 64) ∧ Below w.heap.size w w' := by
  have H := Own.start w
  go_enter Tryd.func44, Tryd.ntmps44
  exact walk10
theorem r7Width_2 (w : World) :
    Calls Tryd.prog 44 #[.int .u8 2] w fun e w' => e = .returned (.int .i64 16) ∧ Below w.heap.size w w' := by
  have H := Own.start w
  go_enter Tryd.func44, Tryd.ntmps44
  exact walk10
theorem r7Width_3 (w : World) :
    Calls Tryd.prog 44 #[.int .u8 3] w fun e w' => e = .returned (.int .i64 128) ∧ Below w.heap.size w w' := by
  have H := Own.start w
  go_enter Tryd.func44, Tryd.ntmps44
  exact walk10
theorem r7Width_o (f : Nat) (w : World) (h2 : ((f : Int) == 2) = false) (h0 : ((f : Int) == 0) = false) (h1 : ((f : Int) == 1) = false) (h3 : ((f : Int) == 3) = false) :
    Calls Tryd.prog 44 #[.int .u8 f] w fun e w' => e = .returned (.int .i64 0) ∧ Below w.heap.size w w' := by
  have H := Own.start w
  go_enter Tryd.func44, Tryd.ntmps44
  exact walk10
theorem r7Width_any (f : Nat) (w : World) : Calls Tryd.prog 44 #[.int .u8 f] w fun e w' => e = .returned (.int .i64 (wF f : Nat)) ∧ Below w.heap.size w w' := by
  rcases forms f with rfl | rfl | rfl | rfl | h
  · exact r7Width_0 w
  · exact r7Width_1 w
  · exact r7Width_2 w
  · exact r7Width_3 w
  · have := r7Width_o f w (int_eq_false f 2 (by omega)) (int_eq_false f 0 (by omega)) (int_eq_false f 1 (by omega)) (int_eq_false f 3 (by omega))
    rw [show wF f = 0 by have := wF_big f h; simp [this]]
    exact this
theorem r7Precision_0 (w : World) :
    Calls Tryd.prog 68 #[.int .u8 0] w fun e w' => e = .returned (.int .i64 24) ∧ Below w.heap.size w w' := by
  have H := Own.start w
  go_enter Tryd.func68, Tryd.ntmps68
  exact walk10
theorem r7Precision_1 (w : World) :
    Calls Tryd.prog 68 #[.int .u8 1] w fun e w' => e = .returned (.int .i64 53) ∧ Below w.heap.size w w' := by
  have H := Own.start w
  go_enter Tryd.func68, Tryd.ntmps68
  exact walk10
theorem r7Precision_2 (w : World) :
    Calls Tryd.prog 68 #[.int .u8 2] w fun e w' => e = .returned (.int .i64 11) ∧ Below w.heap.size w w' := by
  have H := Own.start w
  go_enter Tryd.func68, Tryd.ntmps68
  exact walk10
theorem r7Precision_3 (w : World) :
    Calls Tryd.prog 68 #[.int .u8 3] w fun e w' => e = .returned (.int .i64 113) ∧ Below w.heap.size w w' := by
  have H := Own.start w
  go_enter Tryd.func68, Tryd.ntmps68
  exact walk10
theorem r7Precision_o (f : Nat) (w : World) (h2 : ((f : Int) == 2) = false) (h0 : ((f : Int) == 0) = false) (h1 : ((f : Int) == 1) = false) (h3 : ((f : Int) == 3) = false) :
    Calls Tryd.prog 68 #[.int .u8 f] w fun e w' => e = .returned (.int .i64 0) ∧ Below w.heap.size w w' := by
  have H := Own.start w
  go_enter Tryd.func68, Tryd.ntmps68
  exact walk10
theorem r7Precision_any (f : Nat) (w : World) : Calls Tryd.prog 68 #[.int .u8 f] w fun e w' => e = .returned (.int .i64 (pF f : Nat)) ∧ Below w.heap.size w w' := by
  rcases forms f with rfl | rfl | rfl | rfl | h
  · exact r7Precision_0 w
  · exact r7Precision_1 w
  · exact r7Precision_2 w
  · exact r7Precision_3 w
  · have := r7Precision_o f w (int_eq_false f 2 (by omega)) (int_eq_false f 0 (by omega)) (int_eq_false f 1 (by omega)) (int_eq_false f 3 (by omega))
    rw [show pF f = 0 by have := wF_big f h; simp [this]]
    exact this
theorem r7Emax_0 (w : World) :
    Calls Tryd.prog 85 #[.int .u8 0] w fun e w' => e = .returned (.int .i64 127) ∧ Below w.heap.size w w' := by
  have H := Own.start w
  go_enter Tryd.func85, Tryd.ntmps85
  exact walk10
theorem r7Emax_1 (w : World) :
    Calls Tryd.prog 85 #[.int .u8 1] w fun e w' => e = .returned (.int .i64 1023) ∧ Below w.heap.size w w' := by
  have H := Own.start w
  go_enter Tryd.func85, Tryd.ntmps85
  exact walk10
theorem r7Emax_2 (w : World) :
    Calls Tryd.prog 85 #[.int .u8 2] w fun e w' => e = .returned (.int .i64 15) ∧ Below w.heap.size w w' := by
  have H := Own.start w
  go_enter Tryd.func85, Tryd.ntmps85
  exact walk10
theorem r7Emax_3 (w : World) :
    Calls Tryd.prog 85 #[.int .u8 3] w fun e w' => e = .returned (.int .i64 16383) ∧ Below w.heap.size w w' := by
  have H := Own.start w
  go_enter Tryd.func85, Tryd.ntmps85
  exact walk10
theorem r7Emax_o (f : Nat) (w : World) (h2 : ((f : Int) == 2) = false) (h0 : ((f : Int) == 0) = false) (h1 : ((f : Int) == 1) = false) (h3 : ((f : Int) == 3) = false) :
    Calls Tryd.prog 85 #[.int .u8 f] w fun e w' => e = .returned (.int .i64 0) ∧ Below w.heap.size w w' := by
  have H := Own.start w
  go_enter Tryd.func85, Tryd.ntmps85
  exact walk10
theorem r7Emax_any (f : Nat) (w : World) : Calls Tryd.prog 85 #[.int .u8 f] w fun e w' => e = .returned (.int .i64 (eF f : Nat)) ∧ Below w.heap.size w w' := by
  rcases forms f with rfl | rfl | rfl | rfl | h
  · exact r7Emax_0 w
  · exact r7Emax_1 w
  · exact r7Emax_2 w
  · exact r7Emax_3 w
  · have := r7Emax_o f w (int_eq_false f 2 (by omega)) (int_eq_false f 0 (by omega)) (int_eq_false f 1 (by omega)) (int_eq_false f 3 (by omega))
    rw [show eF f = 0 by have := wF_big f h; simp [this]]
    exact this
theorem r7Ones_any (f : Nat) (w : World) :
    Calls Tryd.prog 66 #[.int .u8 f] w fun e w' => e = .returned (.int .i64 (2 * eF f + 1 : Nat)) ∧ Below w.heap.size w w' := by
  have H := Own.start w
  have he := eF_le f
  have HR := Lib.hid (show (2 * (eF f : Int) + 1) = ((2 * eF f + 1 : Nat) : Int) by omega)
  go_enter Tryd.func66, Tryd.ntmps66
  exact walk10
theorem r7Right_any (f : Nat) (w : World) :
    Calls Tryd.prog 41 #[.int .u8 f] w fun e w' => e = .returned (.bool (decide (f < 4))) ∧ Below w.heap.size w w' := by
  have H := Own.start w
  go_enter Tryd.func41, Tryd.ntmps41
  exact walk10
theorem r7RightMode_any (f : Nat) (w : World) :
    Calls Tryd.prog 21 #[.int .u8 f] w fun e w' => e = .returned (.bool (decide (f < 5))) ∧ Below w.heap.size w w' := by
  have H := Own.start w
  go_enter Tryd.func21, Tryd.ntmps21
  exact walk10
theorem r7Emin_t (f : Nat) (w : World) (hf : f < 4) :
    Calls Tryd.prog 86 #[.int .u8 f] w fun e w' => e = .returned (.int .i64 (1 - (eF f : Nat))) ∧ Below w.heap.size w w' := by
  have H := Own.start w
  have he := eF_le f
  have cR := fun w => r7Right_any f w
  rw [decide_eq_true hf] at cR
  clear hf
  go_enter Tryd.func86, Tryd.ntmps86
  exact walk10
theorem r7Emin_f (f : Nat) (w : World) (hf : ¬ f < 4) :
    Calls Tryd.prog 86 #[.int .u8 f] w fun e w' => e = .returned (.int .i64 (0)) ∧ Below w.heap.size w w' := by
  have H := Own.start w
  have he := eF_le f
  have cR := fun w => r7Right_any f w
  rw [decide_eq_false hf] at cR
  clear hf
  go_enter Tryd.func86, Tryd.ntmps86
  exact walk10
theorem r7Emin_any (f : Nat) (w : World) : Calls Tryd.prog 86 #[.int .u8 f] w fun e w' => e = .returned (.int .i64 (eminI f)) ∧ Below w.heap.size w w' := by
  unfold eminI
  by_cases hf : f < 4
  · rw [decide_eq_true hf]; exact r7Emin_t f w hf
  · rw [decide_eq_false hf]; exact r7Emin_f f w hf
open Go.RowKit
theorem results_ttc {P : Program} {w : World} {fn : Func} {tmps : Array Value} {s t u : Tmp} {T : TypeId} (h : fn.results = #[.tmp s, .tmp u, .cell t T]) {A : Addr} (ha : tmps.getD t undef = .pointer (some A)) {v : Value} (hr : (loadVar T A).run P w = .ok v w) :
    (results fn tmps).run P w = .ok (.tuple #[tmps.getD s undef, tmps.getD u undef, v]) w := by
  rw [Array.getD_eq_getD_getElem?] at ha
  simp [results, h, ha, asAddr, hr]
theorem exp_ones (y d : Nat) (hd : d ≤ 15) : Go.bits .and .i64 (IntKind.i64.wrap (limb y 0)) ((2 ^ d - 1 : Nat) : Int) = ((y % 2 ^ d : Nat) : Int) := by
  have h := field_exp y d hd
  have y1 : 2 ^ d ≤ 2 ^ 15 := Nat.pow_le_pow_right (by decide) hd
  have e : IntKind.i64.wrap (IntKind.i64.wrap ((2 : Int) ^ d) - 1) = ((2 ^ d - 1 : Nat) : Int) := by
    have y0 := Nat.two_pow_pos d
    rw [show (2 : Int) ^ d = ((2 ^ d : Nat) : Int) by simp, IntKind.wrap_i64, IntKind.wrap_i64]
    generalize 2 ^ d = y at *
    omega
  rw [e] at h; exact h
set_option maxHeartbeats 6400000 in
theorem r7Fields_w (f b q r p n o y m t : Nat) (tb lo : Bool) (w : World) (hq : IntKind.i64.wrap ((p : Int) - 1) = (q : Int)) (hr : IntKind.i64.wrap ((n : Int) - 1) = (r : Int)) (cF : ∀ w, Calls Tryd.prog 43 #[BV b] w fun e w' => e = .returned (W b) ∧ Below w.heap.size w w') (cW : ∀ w, Calls Tryd.prog 44 #[.int .u8 f] w fun e w' => e = .returned (.int .i64 (n : Nat)) ∧ Below w.heap.size w w') (cP : ∀ w, Calls Tryd.prog 68 #[.int .u8 f] w fun e w' => e = .returned (.int .i64 (p : Nat)) ∧ Below w.heap.size w w') (cB : ∀ w, Calls Tryd.prog 67 #[W b, .int .i64 (r : Nat)] w fun e w' => e = .returned (.bool tb) ∧ Below w.heap.size w w') (cM : ∀ w, Calls Tryd.prog 80 #[.int .i64 (q : Nat)] w fun e w' => e = .returned (W m) ∧ Below w.heap.size w w') (cA : ∀ w, Calls Tryd.prog 79 #[W b, W m] w fun e w' => e = .returned (W t) ∧ Below w.heap.size w w') (cR : ∀ w, Calls Tryd.prog 81 #[W b, .int .i64 (q : Nat)] w fun e w' => e = .returned (.tuple #[W y, .bool lo]) ∧ Below w.heap.size w w') (cO : ∀ w, Calls Tryd.prog 66 #[.int .u8 f] w fun e w' => e = .returned (.int .i64 (o : Nat)) ∧ Below w.heap.size w w') :
    Calls Tryd.prog 54 #[.int .u8 f, BV b] w fun e w' => e = .returned (.tuple #[.bool tb, .int .i64 (Go.bits .and .i64 (IntKind.i64.wrap (limb y 0)) (o : Nat)), W t]) ∧ Below w.heap.size w w' := by
  have H := Own.start w
  go_enter Tryd.func54, Tryd.ntmps54
  go_wp2_with (first
    | ((with_reducible show wpList _ _ _ (⟨_, .box _ _, _, _, _, _⟩ :: _) _ _); refine H.box rfl rfl (cells_agg _) ?_; (intro g w H; simp only [Act.put, q1_, q2_, q3_]))
    | ((with_reducible show wpList _ _ _ (⟨_, .alloc 33, _, _, _, _⟩ :: _) _ _); refine H.mk0 rfl rW rfl ?_; (intro g w H; simp only [Act.put, q1_, q2_, q3_]))
    | ((with_reducible show wpList _ _ _ (⟨_, .load 33 _, _, _, _, _⟩ :: _) _ _); refine H.ld rfl rW rfl rfl v2_ v4_ (by rfl) ?_; simp only [Act.put, q1_, q2_, q3_])
    | ((with_reducible show wpList _ _ _ (⟨_, .load 27 _, _, _, _, _⟩ :: _) _ _); refine H.ld rfl rB rfl rfl v2_ v3_ (by rfl) ?_; simp only [Act.put, q1_, q2_, q3_])
    | ((with_reducible show wpList _ _ _ (⟨_, .load 25 _, _, _, _, _⟩ :: _) _ _); refine H.ld1 rfl oU rfl rfl v2_ v5_ ?_; simp only [Act.put, q1_, q2_, q3_])
    | ((with_reducible show wpList _ _ _ (⟨_, .store 33 _ _, _, _, _, _⟩ :: _) _ _); refine H.st rfl rW rfl rfl (cells_agg _) v6_ (set_limbsR _ _) (by rfl) (by exact one_of rfl) v11_ ?_; (intro w H; simp only [Act.put]))
    | ((with_reducible show Code.wp _ (.region 2 _ true) _ _ _); refine H.heldSub rfl (List.Sublist.refl _) ?_; intro H; refine H.tk v13_ 0 rfl (by kernel_rfl) (by kernel_rfl) (by kernel_rfl) (fun _ _ _ _ h => h) rfl rW rfl rfl v2_ v4_ (by rfl) ?_; (try simp only [Act.put, q1_, q2_, q3_]); (try simp only [q4_, q5_, q6_]); refine H.takeRun v13_ 1 rfl (by kernel_rfl) (by kernel_rfl) (by kernel_rfl) (fun _ _ _ _ h => h) rfl v14_ ?_; (try simp only [Act.put, q1_, q2_, q3_]); (try simp only [q4_, q5_, q6_]); refine held_one (i := 2) (by kernel_rfl) rfl rfl ?_; unfold Oper.wp; go_simp; (first | (go_at_call 43; ((with_reducible refine (cF _).mono ?_); rintro e w ⟨rfl, hb⟩; replace H := H.call hb; clear hb)) | (go_at_call 44; ((with_reducible refine (cW _).mono ?_); rintro e w ⟨rfl, hb⟩; replace H := H.call hb; clear hb)) | (go_at_call 68; ((with_reducible refine (cP _).mono ?_); rintro e w ⟨rfl, hb⟩; replace H := H.call hb; clear hb)) | (go_at_call 67; ((with_reducible refine (cB _).mono ?_); rintro e w ⟨rfl, hb⟩; replace H := H.call hb; clear hb)) | (go_at_call 80; ((with_reducible refine (cM _).mono ?_); rintro e w ⟨rfl, hb⟩; replace H := H.call hb; clear hb)) | (go_at_call 79; ((with_reducible refine (cA _).mono ?_); rintro e w ⟨rfl, hb⟩; replace H := H.call hb; clear hb)) | (go_at_call 81; ((with_reducible refine (cR _).mono ?_); rintro e w ⟨rfl, hb⟩; replace H := H.call hb; clear hb)) | (go_at_call 66; ((with_reducible refine (cO _).mono ?_); rintro e w ⟨rfl, hb⟩; replace H := H.call hb; clear hb))); refine H.next v13_ ?_; (try simp only [Act.put, q1_, q2_, q3_]); (try simp only [q4_, q5_, q6_]); refine H.takeRun v13_ 3 rfl (by kernel_rfl) (by kernel_rfl) (by kernel_rfl) (fun _ _ _ _ h => h) rfl v14_ ?_; (try simp only [Act.put, q1_, q2_, q3_]); (try simp only [q4_, q5_, q6_]); refine held_one (i := 4) (by kernel_rfl) rfl rfl ?_; unfold Oper.wp; go_simp; (first | (go_at_call 43; ((with_reducible refine (cF _).mono ?_); rintro e w ⟨rfl, hb⟩; replace H := H.call hb; clear hb)) | (go_at_call 44; ((with_reducible refine (cW _).mono ?_); rintro e w ⟨rfl, hb⟩; replace H := H.call hb; clear hb)) | (go_at_call 68; ((with_reducible refine (cP _).mono ?_); rintro e w ⟨rfl, hb⟩; replace H := H.call hb; clear hb)) | (go_at_call 67; ((with_reducible refine (cB _).mono ?_); rintro e w ⟨rfl, hb⟩; replace H := H.call hb; clear hb)) | (go_at_call 80; ((with_reducible refine (cM _).mono ?_); rintro e w ⟨rfl, hb⟩; replace H := H.call hb; clear hb)) | (go_at_call 79; ((with_reducible refine (cA _).mono ?_); rintro e w ⟨rfl, hb⟩; replace H := H.call hb; clear hb)) | (go_at_call 81; ((with_reducible refine (cR _).mono ?_); rintro e w ⟨rfl, hb⟩; replace H := H.call hb; clear hb)) | (go_at_call 66; ((with_reducible refine (cO _).mono ?_); rintro e w ⟨rfl, hb⟩; replace H := H.call hb; clear hb))); refine H.next v13_ ?_; (try simp only [Act.put, q1_, q2_, q3_]); (try simp only [q4_, q5_, q6_]); refine H.takeRun v13_ 5 rfl (by kernel_rfl) (by kernel_rfl) (by kernel_rfl) (fun _ _ _ _ h => h) rfl v14_ ?_; (try simp only [Act.put, q1_, q2_, q3_]); (try simp only [q4_, q5_, q6_]); refine wpAnyH_done (by kernel_rfl) ?_ _)
    | ((with_reducible show Code.wp _ (.region 3 _ true) _ _ _); apply H.join1; refine H.heldSub rfl (List.Sublist.refl _) ?_; intro H; refine H.tk v13_ 0 rfl (by kernel_rfl) (by kernel_rfl) (by kernel_rfl) (fun _ _ _ _ h => by cases h.1) rfl rW rfl rfl v2_ v4_ (by rfl) ?_; (try simp only [Act.put, q1_, q2_, q3_]); (try simp only [q4_, q5_, q6_]); refine H.takeRun v13_ 1 rfl (by kernel_rfl) (by kernel_rfl) (by kernel_rfl) (fun _ _ _ _ h => by cases h.1) rfl v14_ ?_; (try simp only [Act.put, q1_, q2_, q3_]); (try simp only [q4_, q5_, q6_]); refine held_two (i := 2) (k := 6) (by kernel_rfl) rfl rfl rfl rfl ?_ ?_; (unfold Oper.wp; go_simp; (first | (go_at_call 43; ((with_reducible refine (cF _).mono ?_); rintro e w ⟨rfl, hb⟩; replace H := H.call hb; clear hb)) | (go_at_call 44; ((with_reducible refine (cW _).mono ?_); rintro e w ⟨rfl, hb⟩; replace H := H.call hb; clear hb)) | (go_at_call 68; ((with_reducible refine (cP _).mono ?_); rintro e w ⟨rfl, hb⟩; replace H := H.call hb; clear hb)) | (go_at_call 67; ((with_reducible refine (cB _).mono ?_); rintro e w ⟨rfl, hb⟩; replace H := H.call hb; clear hb)) | (go_at_call 80; ((with_reducible refine (cM _).mono ?_); rintro e w ⟨rfl, hb⟩; replace H := H.call hb; clear hb)) | (go_at_call 79; ((with_reducible refine (cA _).mono ?_); rintro e w ⟨rfl, hb⟩; replace H := H.call hb; clear hb)) | (go_at_call 81; ((with_reducible refine (cR _).mono ?_); rintro e w ⟨rfl, hb⟩; replace H := H.call hb; clear hb)) | (go_at_call 66; ((with_reducible refine (cO _).mono ?_); rintro e w ⟨rfl, hb⟩; replace H := H.call hb; clear hb))); refine H.next v13_ ?_; (try simp only [Act.put, q1_, q2_, q3_]); (try simp only [q4_, q5_, q6_]); refine H.takeRun v13_ 3 rfl (by kernel_rfl) (by kernel_rfl) (by kernel_rfl) (fun _ _ _ _ h => by cases h.1) rfl v14_ ?_; (try simp only [Act.put, q1_, q2_, q3_]); (try simp only [q4_, q5_, q6_]); refine held_two (i := 4) (k := 6) (by kernel_rfl) rfl rfl rfl rfl ?_ ?_; (unfold Oper.wp; go_simp; (first | (go_at_call 43; ((with_reducible refine (cF _).mono ?_); rintro e w ⟨rfl, hb⟩; replace H := H.call hb; clear hb)) | (go_at_call 44; ((with_reducible refine (cW _).mono ?_); rintro e w ⟨rfl, hb⟩; replace H := H.call hb; clear hb)) | (go_at_call 68; ((with_reducible refine (cP _).mono ?_); rintro e w ⟨rfl, hb⟩; replace H := H.call hb; clear hb)) | (go_at_call 67; ((with_reducible refine (cB _).mono ?_); rintro e w ⟨rfl, hb⟩; replace H := H.call hb; clear hb)) | (go_at_call 80; ((with_reducible refine (cM _).mono ?_); rintro e w ⟨rfl, hb⟩; replace H := H.call hb; clear hb)) | (go_at_call 79; ((with_reducible refine (cA _).mono ?_); rintro e w ⟨rfl, hb⟩; replace H := H.call hb; clear hb)) | (go_at_call 81; ((with_reducible refine (cR _).mono ?_); rintro e w ⟨rfl, hb⟩; replace H := H.call hb; clear hb)) | (go_at_call 66; ((with_reducible refine (cO _).mono ?_); rintro e w ⟨rfl, hb⟩; replace H := H.call hb; clear hb))); refine H.next v13_ ?_; (try simp only [Act.put, q1_, q2_, q3_]); (try simp only [q4_, q5_, q6_]); refine held_two (i := 5) (k := 6) (by kernel_rfl) rfl rfl rfl rfl ?_ ?_; (unfold Oper.wp; go_simp; (first | (go_at_call 43; ((with_reducible refine (cF _).mono ?_); rintro e w ⟨rfl, hb⟩; replace H := H.call hb; clear hb)) | (go_at_call 44; ((with_reducible refine (cW _).mono ?_); rintro e w ⟨rfl, hb⟩; replace H := H.call hb; clear hb)) | (go_at_call 68; ((with_reducible refine (cP _).mono ?_); rintro e w ⟨rfl, hb⟩; replace H := H.call hb; clear hb)) | (go_at_call 67; ((with_reducible refine (cB _).mono ?_); rintro e w ⟨rfl, hb⟩; replace H := H.call hb; clear hb)) | (go_at_call 80; ((with_reducible refine (cM _).mono ?_); rintro e w ⟨rfl, hb⟩; replace H := H.call hb; clear hb)) | (go_at_call 79; ((with_reducible refine (cA _).mono ?_); rintro e w ⟨rfl, hb⟩; replace H := H.call hb; clear hb)) | (go_at_call 81; ((with_reducible refine (cR _).mono ?_); rintro e w ⟨rfl, hb⟩; replace H := H.call hb; clear hb)) | (go_at_call 66; ((with_reducible refine (cO _).mono ?_); rintro e w ⟨rfl, hb⟩; replace H := H.call hb; clear hb))); refine H.next v13_ ?_; (try simp only [Act.put, q1_, q2_, q3_]); (try simp only [q4_, q5_, q6_]); refine held_one (i := 6) (by kernel_rfl) rfl rfl ?_; refine H.oal rW rfl ?_; intro g6 w H; refine H.next v13_ ?_; (try simp only [Act.put, q1_, q2_, q3_]); (try simp only [q4_, q5_, q6_]); refine held_one (i := 7) (by kernel_rfl) rfl rfl ?_; refine H.ost rW rfl rfl (cells_agg _) v6_ (set_limbsR _ _) (by rfl) (by exact one_of rfl) v11_ ?_; intro w H; refine H.next v13_ ?_; (try simp only [Act.put]); refine wpAnyH_done (by kernel_rfl) ?_ _; (first | exact ⟨rfl, g6, rfl, H⟩ | exact ⟨rfl, g6, rfl, (H.perm (List.Perm.swap _ _ _))⟩ | exact ⟨rfl, g6, rfl, (H.perm (List.Perm.cons _ (List.Perm.swap _ _ _)))⟩ | exact ⟨rfl, g6, rfl, (H.perm ((List.Perm.swap _ _ _).trans (List.Perm.cons _ (List.Perm.swap _ _ _))))⟩ | exact ⟨rfl, g6, rfl, (H.perm ((List.Perm.cons _ (List.Perm.swap _ _ _)).trans (List.Perm.swap _ _ _)))⟩ | exact ⟨rfl, g6, rfl, (H.perm (((List.Perm.swap _ _ _).trans (List.Perm.cons _ (List.Perm.swap _ _ _))).trans (List.Perm.swap _ _ _)))⟩)); (refine H.oal rW rfl ?_; intro g6 w H; refine H.next v13_ ?_; (try simp only [Act.put, q1_, q2_, q3_]); (try simp only [q4_, q5_, q6_]); refine held_one (i := 5) (by kernel_rfl) rfl rfl ?_; unfold Oper.wp; go_simp; (first | (go_at_call 43; ((with_reducible refine (cF _).mono ?_); rintro e w ⟨rfl, hb⟩; replace H := H.call hb; clear hb)) | (go_at_call 44; ((with_reducible refine (cW _).mono ?_); rintro e w ⟨rfl, hb⟩; replace H := H.call hb; clear hb)) | (go_at_call 68; ((with_reducible refine (cP _).mono ?_); rintro e w ⟨rfl, hb⟩; replace H := H.call hb; clear hb)) | (go_at_call 67; ((with_reducible refine (cB _).mono ?_); rintro e w ⟨rfl, hb⟩; replace H := H.call hb; clear hb)) | (go_at_call 80; ((with_reducible refine (cM _).mono ?_); rintro e w ⟨rfl, hb⟩; replace H := H.call hb; clear hb)) | (go_at_call 79; ((with_reducible refine (cA _).mono ?_); rintro e w ⟨rfl, hb⟩; replace H := H.call hb; clear hb)) | (go_at_call 81; ((with_reducible refine (cR _).mono ?_); rintro e w ⟨rfl, hb⟩; replace H := H.call hb; clear hb)) | (go_at_call 66; ((with_reducible refine (cO _).mono ?_); rintro e w ⟨rfl, hb⟩; replace H := H.call hb; clear hb))); refine H.next v13_ ?_; (try simp only [Act.put, q1_, q2_, q3_]); (try simp only [q4_, q5_, q6_]); refine held_one (i := 7) (by kernel_rfl) rfl rfl ?_; refine H.ost rW rfl rfl (cells_agg _) v6_ (set_limbsR _ _) (by rfl) (by exact one_of rfl) v11_ ?_; intro w H; refine H.next v13_ ?_; (try simp only [Act.put]); refine wpAnyH_done (by kernel_rfl) ?_ _; (first | exact ⟨rfl, g6, rfl, H⟩ | exact ⟨rfl, g6, rfl, (H.perm (List.Perm.swap _ _ _))⟩ | exact ⟨rfl, g6, rfl, (H.perm (List.Perm.cons _ (List.Perm.swap _ _ _)))⟩ | exact ⟨rfl, g6, rfl, (H.perm ((List.Perm.swap _ _ _).trans (List.Perm.cons _ (List.Perm.swap _ _ _))))⟩ | exact ⟨rfl, g6, rfl, (H.perm ((List.Perm.cons _ (List.Perm.swap _ _ _)).trans (List.Perm.swap _ _ _)))⟩ | exact ⟨rfl, g6, rfl, (H.perm (((List.Perm.swap _ _ _).trans (List.Perm.cons _ (List.Perm.swap _ _ _))).trans (List.Perm.swap _ _ _)))⟩))); (refine H.oal rW rfl ?_; intro g6 w H; refine H.next v13_ ?_; (try simp only [Act.put, q1_, q2_, q3_]); (try simp only [q4_, q5_, q6_]); refine held_one (i := 4) (by kernel_rfl) rfl rfl ?_; unfold Oper.wp; go_simp; (first | (go_at_call 43; ((with_reducible refine (cF _).mono ?_); rintro e w ⟨rfl, hb⟩; replace H := H.call hb; clear hb)) | (go_at_call 44; ((with_reducible refine (cW _).mono ?_); rintro e w ⟨rfl, hb⟩; replace H := H.call hb; clear hb)) | (go_at_call 68; ((with_reducible refine (cP _).mono ?_); rintro e w ⟨rfl, hb⟩; replace H := H.call hb; clear hb)) | (go_at_call 67; ((with_reducible refine (cB _).mono ?_); rintro e w ⟨rfl, hb⟩; replace H := H.call hb; clear hb)) | (go_at_call 80; ((with_reducible refine (cM _).mono ?_); rintro e w ⟨rfl, hb⟩; replace H := H.call hb; clear hb)) | (go_at_call 79; ((with_reducible refine (cA _).mono ?_); rintro e w ⟨rfl, hb⟩; replace H := H.call hb; clear hb)) | (go_at_call 81; ((with_reducible refine (cR _).mono ?_); rintro e w ⟨rfl, hb⟩; replace H := H.call hb; clear hb)) | (go_at_call 66; ((with_reducible refine (cO _).mono ?_); rintro e w ⟨rfl, hb⟩; replace H := H.call hb; clear hb))); refine H.next v13_ ?_; (try simp only [Act.put, q1_, q2_, q3_]); (try simp only [q4_, q5_, q6_]); refine held_one (i := 5) (by kernel_rfl) rfl rfl ?_; unfold Oper.wp; go_simp; (first | (go_at_call 43; ((with_reducible refine (cF _).mono ?_); rintro e w ⟨rfl, hb⟩; replace H := H.call hb; clear hb)) | (go_at_call 44; ((with_reducible refine (cW _).mono ?_); rintro e w ⟨rfl, hb⟩; replace H := H.call hb; clear hb)) | (go_at_call 68; ((with_reducible refine (cP _).mono ?_); rintro e w ⟨rfl, hb⟩; replace H := H.call hb; clear hb)) | (go_at_call 67; ((with_reducible refine (cB _).mono ?_); rintro e w ⟨rfl, hb⟩; replace H := H.call hb; clear hb)) | (go_at_call 80; ((with_reducible refine (cM _).mono ?_); rintro e w ⟨rfl, hb⟩; replace H := H.call hb; clear hb)) | (go_at_call 79; ((with_reducible refine (cA _).mono ?_); rintro e w ⟨rfl, hb⟩; replace H := H.call hb; clear hb)) | (go_at_call 81; ((with_reducible refine (cR _).mono ?_); rintro e w ⟨rfl, hb⟩; replace H := H.call hb; clear hb)) | (go_at_call 66; ((with_reducible refine (cO _).mono ?_); rintro e w ⟨rfl, hb⟩; replace H := H.call hb; clear hb))); refine H.next v13_ ?_; (try simp only [Act.put, q1_, q2_, q3_]); (try simp only [q4_, q5_, q6_]); refine held_one (i := 7) (by kernel_rfl) rfl rfl ?_; refine H.ost rW rfl rfl (cells_agg _) v6_ (set_limbsR _ _) (by rfl) (by exact one_of rfl) v11_ ?_; intro w H; refine H.next v13_ ?_; (try simp only [Act.put]); refine wpAnyH_done (by kernel_rfl) ?_ _; (first | exact ⟨rfl, g6, rfl, H⟩ | exact ⟨rfl, g6, rfl, (H.perm (List.Perm.swap _ _ _))⟩ | exact ⟨rfl, g6, rfl, (H.perm (List.Perm.cons _ (List.Perm.swap _ _ _)))⟩ | exact ⟨rfl, g6, rfl, (H.perm ((List.Perm.swap _ _ _).trans (List.Perm.cons _ (List.Perm.swap _ _ _))))⟩ | exact ⟨rfl, g6, rfl, (H.perm ((List.Perm.cons _ (List.Perm.swap _ _ _)).trans (List.Perm.swap _ _ _)))⟩ | exact ⟨rfl, g6, rfl, (H.perm (((List.Perm.swap _ _ _).trans (List.Perm.cons _ (List.Perm.swap _ _ _))).trans (List.Perm.swap _ _ _)))⟩))); (refine H.oal rW rfl ?_; intro g6 w H; refine H.next v13_ ?_; (try simp only [Act.put, q1_, q2_, q3_]); (try simp only [q4_, q5_, q6_]); refine held_one (i := 2) (by kernel_rfl) rfl rfl ?_; unfold Oper.wp; go_simp; (first | (go_at_call 43; ((with_reducible refine (cF _).mono ?_); rintro e w ⟨rfl, hb⟩; replace H := H.call hb; clear hb)) | (go_at_call 44; ((with_reducible refine (cW _).mono ?_); rintro e w ⟨rfl, hb⟩; replace H := H.call hb; clear hb)) | (go_at_call 68; ((with_reducible refine (cP _).mono ?_); rintro e w ⟨rfl, hb⟩; replace H := H.call hb; clear hb)) | (go_at_call 67; ((with_reducible refine (cB _).mono ?_); rintro e w ⟨rfl, hb⟩; replace H := H.call hb; clear hb)) | (go_at_call 80; ((with_reducible refine (cM _).mono ?_); rintro e w ⟨rfl, hb⟩; replace H := H.call hb; clear hb)) | (go_at_call 79; ((with_reducible refine (cA _).mono ?_); rintro e w ⟨rfl, hb⟩; replace H := H.call hb; clear hb)) | (go_at_call 81; ((with_reducible refine (cR _).mono ?_); rintro e w ⟨rfl, hb⟩; replace H := H.call hb; clear hb)) | (go_at_call 66; ((with_reducible refine (cO _).mono ?_); rintro e w ⟨rfl, hb⟩; replace H := H.call hb; clear hb))); refine H.next v13_ ?_; (try simp only [Act.put, q1_, q2_, q3_]); (try simp only [q4_, q5_, q6_]); refine H.takeRun v13_ 3 rfl (by kernel_rfl) (by kernel_rfl) (by kernel_rfl) (fun _ _ _ _ h => by cases h.1) rfl v14_ ?_; (try simp only [Act.put, q1_, q2_, q3_]); (try simp only [q4_, q5_, q6_]); refine held_one (i := 4) (by kernel_rfl) rfl rfl ?_; unfold Oper.wp; go_simp; (first | (go_at_call 43; ((with_reducible refine (cF _).mono ?_); rintro e w ⟨rfl, hb⟩; replace H := H.call hb; clear hb)) | (go_at_call 44; ((with_reducible refine (cW _).mono ?_); rintro e w ⟨rfl, hb⟩; replace H := H.call hb; clear hb)) | (go_at_call 68; ((with_reducible refine (cP _).mono ?_); rintro e w ⟨rfl, hb⟩; replace H := H.call hb; clear hb)) | (go_at_call 67; ((with_reducible refine (cB _).mono ?_); rintro e w ⟨rfl, hb⟩; replace H := H.call hb; clear hb)) | (go_at_call 80; ((with_reducible refine (cM _).mono ?_); rintro e w ⟨rfl, hb⟩; replace H := H.call hb; clear hb)) | (go_at_call 79; ((with_reducible refine (cA _).mono ?_); rintro e w ⟨rfl, hb⟩; replace H := H.call hb; clear hb)) | (go_at_call 81; ((with_reducible refine (cR _).mono ?_); rintro e w ⟨rfl, hb⟩; replace H := H.call hb; clear hb)) | (go_at_call 66; ((with_reducible refine (cO _).mono ?_); rintro e w ⟨rfl, hb⟩; replace H := H.call hb; clear hb))); refine H.next v13_ ?_; (try simp only [Act.put, q1_, q2_, q3_]); (try simp only [q4_, q5_, q6_]); refine held_one (i := 5) (by kernel_rfl) rfl rfl ?_; unfold Oper.wp; go_simp; (first | (go_at_call 43; ((with_reducible refine (cF _).mono ?_); rintro e w ⟨rfl, hb⟩; replace H := H.call hb; clear hb)) | (go_at_call 44; ((with_reducible refine (cW _).mono ?_); rintro e w ⟨rfl, hb⟩; replace H := H.call hb; clear hb)) | (go_at_call 68; ((with_reducible refine (cP _).mono ?_); rintro e w ⟨rfl, hb⟩; replace H := H.call hb; clear hb)) | (go_at_call 67; ((with_reducible refine (cB _).mono ?_); rintro e w ⟨rfl, hb⟩; replace H := H.call hb; clear hb)) | (go_at_call 80; ((with_reducible refine (cM _).mono ?_); rintro e w ⟨rfl, hb⟩; replace H := H.call hb; clear hb)) | (go_at_call 79; ((with_reducible refine (cA _).mono ?_); rintro e w ⟨rfl, hb⟩; replace H := H.call hb; clear hb)) | (go_at_call 81; ((with_reducible refine (cR _).mono ?_); rintro e w ⟨rfl, hb⟩; replace H := H.call hb; clear hb)) | (go_at_call 66; ((with_reducible refine (cO _).mono ?_); rintro e w ⟨rfl, hb⟩; replace H := H.call hb; clear hb))); refine H.next v13_ ?_; (try simp only [Act.put, q1_, q2_, q3_]); (try simp only [q4_, q5_, q6_]); refine held_one (i := 7) (by kernel_rfl) rfl rfl ?_; refine H.ost rW rfl rfl (cells_agg _) v6_ (set_limbsR _ _) (by rfl) (by exact one_of rfl) v11_ ?_; intro w H; refine H.next v13_ ?_; (try simp only [Act.put]); refine wpAnyH_done (by kernel_rfl) ?_ _; (first | exact ⟨rfl, g6, rfl, H⟩ | exact ⟨rfl, g6, rfl, (H.perm (List.Perm.swap _ _ _))⟩ | exact ⟨rfl, g6, rfl, (H.perm (List.Perm.cons _ (List.Perm.swap _ _ _)))⟩ | exact ⟨rfl, g6, rfl, (H.perm ((List.Perm.swap _ _ _).trans (List.Perm.cons _ (List.Perm.swap _ _ _))))⟩ | exact ⟨rfl, g6, rfl, (H.perm ((List.Perm.cons _ (List.Perm.swap _ _ _)).trans (List.Perm.swap _ _ _)))⟩ | exact ⟨rfl, g6, rfl, (H.perm (((List.Perm.swap _ _ _).trans (List.Perm.cons _ (List.Perm.swap _ _ _))).trans (List.Perm.swap _ _ _)))⟩)); clear H; intro ga w H)
    | ((with_reducible show Code.wp _ (.region 4 _ true) _ _ _); apply H.join1; refine H.heldSub rfl (List.Sublist.refl _) ?_; intro H; refine H.tk v13_ 0 rfl (by kernel_rfl) (by kernel_rfl) (by kernel_rfl) (fun _ _ _ _ h => by cases h.1) rfl rW rfl rfl v2_ v4_ (by rfl) ?_; (try simp only [Act.put, q1_, q2_, q3_]); (try simp only [q4_, q5_, q6_]); refine H.takeRun v13_ 1 rfl (by kernel_rfl) (by kernel_rfl) (by kernel_rfl) (fun _ _ _ _ h => by cases h.1) rfl v14_ ?_; (try simp only [Act.put, q1_, q2_, q3_]); (try simp only [q4_, q5_, q6_]); refine held_two (i := 2) (k := 8) (by kernel_rfl) rfl rfl rfl rfl ?_ ?_; (unfold Oper.wp; go_simp; (first | (go_at_call 43; ((with_reducible refine (cF _).mono ?_); rintro e w ⟨rfl, hb⟩; replace H := H.call hb; clear hb)) | (go_at_call 44; ((with_reducible refine (cW _).mono ?_); rintro e w ⟨rfl, hb⟩; replace H := H.call hb; clear hb)) | (go_at_call 68; ((with_reducible refine (cP _).mono ?_); rintro e w ⟨rfl, hb⟩; replace H := H.call hb; clear hb)) | (go_at_call 67; ((with_reducible refine (cB _).mono ?_); rintro e w ⟨rfl, hb⟩; replace H := H.call hb; clear hb)) | (go_at_call 80; ((with_reducible refine (cM _).mono ?_); rintro e w ⟨rfl, hb⟩; replace H := H.call hb; clear hb)) | (go_at_call 79; ((with_reducible refine (cA _).mono ?_); rintro e w ⟨rfl, hb⟩; replace H := H.call hb; clear hb)) | (go_at_call 81; ((with_reducible refine (cR _).mono ?_); rintro e w ⟨rfl, hb⟩; replace H := H.call hb; clear hb)) | (go_at_call 66; ((with_reducible refine (cO _).mono ?_); rintro e w ⟨rfl, hb⟩; replace H := H.call hb; clear hb))); refine H.next v13_ ?_; (try simp only [Act.put, q1_, q2_, q3_]); (try simp only [q4_, q5_, q6_]); refine H.takeRun v13_ 3 rfl (by kernel_rfl) (by kernel_rfl) (by kernel_rfl) (fun _ _ _ _ h => by cases h.1) rfl v14_ ?_; (try simp only [Act.put, q1_, q2_, q3_]); (try simp only [q4_, q5_, q6_]); refine held_two (i := 4) (k := 8) (by kernel_rfl) rfl rfl rfl rfl ?_ ?_; (unfold Oper.wp; go_simp; (first | (go_at_call 43; ((with_reducible refine (cF _).mono ?_); rintro e w ⟨rfl, hb⟩; replace H := H.call hb; clear hb)) | (go_at_call 44; ((with_reducible refine (cW _).mono ?_); rintro e w ⟨rfl, hb⟩; replace H := H.call hb; clear hb)) | (go_at_call 68; ((with_reducible refine (cP _).mono ?_); rintro e w ⟨rfl, hb⟩; replace H := H.call hb; clear hb)) | (go_at_call 67; ((with_reducible refine (cB _).mono ?_); rintro e w ⟨rfl, hb⟩; replace H := H.call hb; clear hb)) | (go_at_call 80; ((with_reducible refine (cM _).mono ?_); rintro e w ⟨rfl, hb⟩; replace H := H.call hb; clear hb)) | (go_at_call 79; ((with_reducible refine (cA _).mono ?_); rintro e w ⟨rfl, hb⟩; replace H := H.call hb; clear hb)) | (go_at_call 81; ((with_reducible refine (cR _).mono ?_); rintro e w ⟨rfl, hb⟩; replace H := H.call hb; clear hb)) | (go_at_call 66; ((with_reducible refine (cO _).mono ?_); rintro e w ⟨rfl, hb⟩; replace H := H.call hb; clear hb))); refine H.next v13_ ?_; (try simp only [Act.put, q1_, q2_, q3_]); (try simp only [q4_, q5_, q6_]); refine H.takeRun v13_ 5 rfl (by kernel_rfl) (by kernel_rfl) (by kernel_rfl) (fun _ _ _ _ h => by cases h.1) rfl v14_ ?_; (try simp only [Act.put, q1_, q2_, q3_]); (try simp only [q4_, q5_, q6_]); refine H.takeRun v13_ 6 rfl (by kernel_rfl) (by kernel_rfl) (by kernel_rfl) (fun _ _ _ _ h => by cases h.1) rfl v14_ ?_; (try simp only [Act.put, q1_, q2_, q3_]); (try simp only [q4_, q5_, q6_]); refine H.takeRun v13_ 7 rfl (by kernel_rfl) (by kernel_rfl) (by kernel_rfl) (fun _ _ _ _ h => by cases h.1) rfl v14_ ?_; (try simp only [Act.put, q1_, q2_, q3_]); (try simp only [q4_, q5_, q6_]); refine held_one (i := 8) (by kernel_rfl) rfl rfl ?_; refine H.oal rW rfl ?_; intro g8 w H; refine H.next v13_ ?_; (try simp only [Act.put, q1_, q2_, q3_]); (try simp only [q4_, q5_, q6_]); refine held_one (i := 9) (by kernel_rfl) rfl rfl ?_; refine H.ost rW rfl rfl (cells_agg _) v6_ (set_limbsR _ _) (by rfl) (by exact one_of rfl) v11_ ?_; intro w H; refine H.next v13_ ?_; (try simp only [Act.put]); refine H.takeRun v13_ 10 rfl (by kernel_rfl) (by kernel_rfl) (by kernel_rfl) (fun _ _ _ _ h => by cases h.1) rfl v14_ ?_; (try simp only [Act.put, q1_, q2_, q3_]); (try simp only [q4_, q5_, q6_]); refine wpAnyH_done (by kernel_rfl) ?_ _; (first | exact ⟨rfl, g8, rfl, H⟩ | exact ⟨rfl, g8, rfl, (H.perm (List.Perm.swap _ _ _))⟩ | exact ⟨rfl, g8, rfl, (H.perm (List.Perm.cons _ (List.Perm.swap _ _ _)))⟩ | exact ⟨rfl, g8, rfl, (H.perm ((List.Perm.swap _ _ _).trans (List.Perm.cons _ (List.Perm.swap _ _ _))))⟩ | exact ⟨rfl, g8, rfl, (H.perm ((List.Perm.cons _ (List.Perm.swap _ _ _)).trans (List.Perm.swap _ _ _)))⟩ | exact ⟨rfl, g8, rfl, (H.perm (((List.Perm.swap _ _ _).trans (List.Perm.cons _ (List.Perm.swap _ _ _))).trans (List.Perm.swap _ _ _)))⟩)); (refine H.oal rW rfl ?_; intro g8 w H; refine H.next v13_ ?_; (try simp only [Act.put, q1_, q2_, q3_]); (try simp only [q4_, q5_, q6_]); refine held_one (i := 4) (by kernel_rfl) rfl rfl ?_; unfold Oper.wp; go_simp; (first | (go_at_call 43; ((with_reducible refine (cF _).mono ?_); rintro e w ⟨rfl, hb⟩; replace H := H.call hb; clear hb)) | (go_at_call 44; ((with_reducible refine (cW _).mono ?_); rintro e w ⟨rfl, hb⟩; replace H := H.call hb; clear hb)) | (go_at_call 68; ((with_reducible refine (cP _).mono ?_); rintro e w ⟨rfl, hb⟩; replace H := H.call hb; clear hb)) | (go_at_call 67; ((with_reducible refine (cB _).mono ?_); rintro e w ⟨rfl, hb⟩; replace H := H.call hb; clear hb)) | (go_at_call 80; ((with_reducible refine (cM _).mono ?_); rintro e w ⟨rfl, hb⟩; replace H := H.call hb; clear hb)) | (go_at_call 79; ((with_reducible refine (cA _).mono ?_); rintro e w ⟨rfl, hb⟩; replace H := H.call hb; clear hb)) | (go_at_call 81; ((with_reducible refine (cR _).mono ?_); rintro e w ⟨rfl, hb⟩; replace H := H.call hb; clear hb)) | (go_at_call 66; ((with_reducible refine (cO _).mono ?_); rintro e w ⟨rfl, hb⟩; replace H := H.call hb; clear hb))); refine H.next v13_ ?_; (try simp only [Act.put, q1_, q2_, q3_]); (try simp only [q4_, q5_, q6_]); refine H.takeRun v13_ 5 rfl (by kernel_rfl) (by kernel_rfl) (by kernel_rfl) (fun _ _ _ _ h => by cases h.1) rfl v14_ ?_; (try simp only [Act.put, q1_, q2_, q3_]); (try simp only [q4_, q5_, q6_]); refine H.takeRun v13_ 6 rfl (by kernel_rfl) (by kernel_rfl) (by kernel_rfl) (fun _ _ _ _ h => by cases h.1) rfl v14_ ?_; (try simp only [Act.put, q1_, q2_, q3_]); (try simp only [q4_, q5_, q6_]); refine H.takeRun v13_ 7 rfl (by kernel_rfl) (by kernel_rfl) (by kernel_rfl) (fun _ _ _ _ h => by cases h.1) rfl v14_ ?_; (try simp only [Act.put, q1_, q2_, q3_]); (try simp only [q4_, q5_, q6_]); refine held_one (i := 9) (by kernel_rfl) rfl rfl ?_; refine H.ost rW rfl rfl (cells_agg _) v6_ (set_limbsR _ _) (by rfl) (by exact one_of rfl) v11_ ?_; intro w H; refine H.next v13_ ?_; (try simp only [Act.put]); refine H.takeRun v13_ 10 rfl (by kernel_rfl) (by kernel_rfl) (by kernel_rfl) (fun _ _ _ _ h => by cases h.1) rfl v14_ ?_; (try simp only [Act.put, q1_, q2_, q3_]); (try simp only [q4_, q5_, q6_]); refine wpAnyH_done (by kernel_rfl) ?_ _; (first | exact ⟨rfl, g8, rfl, H⟩ | exact ⟨rfl, g8, rfl, (H.perm (List.Perm.swap _ _ _))⟩ | exact ⟨rfl, g8, rfl, (H.perm (List.Perm.cons _ (List.Perm.swap _ _ _)))⟩ | exact ⟨rfl, g8, rfl, (H.perm ((List.Perm.swap _ _ _).trans (List.Perm.cons _ (List.Perm.swap _ _ _))))⟩ | exact ⟨rfl, g8, rfl, (H.perm ((List.Perm.cons _ (List.Perm.swap _ _ _)).trans (List.Perm.swap _ _ _)))⟩ | exact ⟨rfl, g8, rfl, (H.perm (((List.Perm.swap _ _ _).trans (List.Perm.cons _ (List.Perm.swap _ _ _))).trans (List.Perm.swap _ _ _)))⟩))); (refine H.oal rW rfl ?_; intro g8 w H; refine H.next v13_ ?_; (try simp only [Act.put, q1_, q2_, q3_]); (try simp only [q4_, q5_, q6_]); refine held_one (i := 2) (by kernel_rfl) rfl rfl ?_; unfold Oper.wp; go_simp; (first | (go_at_call 43; ((with_reducible refine (cF _).mono ?_); rintro e w ⟨rfl, hb⟩; replace H := H.call hb; clear hb)) | (go_at_call 44; ((with_reducible refine (cW _).mono ?_); rintro e w ⟨rfl, hb⟩; replace H := H.call hb; clear hb)) | (go_at_call 68; ((with_reducible refine (cP _).mono ?_); rintro e w ⟨rfl, hb⟩; replace H := H.call hb; clear hb)) | (go_at_call 67; ((with_reducible refine (cB _).mono ?_); rintro e w ⟨rfl, hb⟩; replace H := H.call hb; clear hb)) | (go_at_call 80; ((with_reducible refine (cM _).mono ?_); rintro e w ⟨rfl, hb⟩; replace H := H.call hb; clear hb)) | (go_at_call 79; ((with_reducible refine (cA _).mono ?_); rintro e w ⟨rfl, hb⟩; replace H := H.call hb; clear hb)) | (go_at_call 81; ((with_reducible refine (cR _).mono ?_); rintro e w ⟨rfl, hb⟩; replace H := H.call hb; clear hb)) | (go_at_call 66; ((with_reducible refine (cO _).mono ?_); rintro e w ⟨rfl, hb⟩; replace H := H.call hb; clear hb))); refine H.next v13_ ?_; (try simp only [Act.put, q1_, q2_, q3_]); (try simp only [q4_, q5_, q6_]); refine H.takeRun v13_ 3 rfl (by kernel_rfl) (by kernel_rfl) (by kernel_rfl) (fun _ _ _ _ h => by cases h.1) rfl v14_ ?_; (try simp only [Act.put, q1_, q2_, q3_]); (try simp only [q4_, q5_, q6_]); refine held_one (i := 4) (by kernel_rfl) rfl rfl ?_; unfold Oper.wp; go_simp; (first | (go_at_call 43; ((with_reducible refine (cF _).mono ?_); rintro e w ⟨rfl, hb⟩; replace H := H.call hb; clear hb)) | (go_at_call 44; ((with_reducible refine (cW _).mono ?_); rintro e w ⟨rfl, hb⟩; replace H := H.call hb; clear hb)) | (go_at_call 68; ((with_reducible refine (cP _).mono ?_); rintro e w ⟨rfl, hb⟩; replace H := H.call hb; clear hb)) | (go_at_call 67; ((with_reducible refine (cB _).mono ?_); rintro e w ⟨rfl, hb⟩; replace H := H.call hb; clear hb)) | (go_at_call 80; ((with_reducible refine (cM _).mono ?_); rintro e w ⟨rfl, hb⟩; replace H := H.call hb; clear hb)) | (go_at_call 79; ((with_reducible refine (cA _).mono ?_); rintro e w ⟨rfl, hb⟩; replace H := H.call hb; clear hb)) | (go_at_call 81; ((with_reducible refine (cR _).mono ?_); rintro e w ⟨rfl, hb⟩; replace H := H.call hb; clear hb)) | (go_at_call 66; ((with_reducible refine (cO _).mono ?_); rintro e w ⟨rfl, hb⟩; replace H := H.call hb; clear hb))); refine H.next v13_ ?_; (try simp only [Act.put, q1_, q2_, q3_]); (try simp only [q4_, q5_, q6_]); refine H.takeRun v13_ 5 rfl (by kernel_rfl) (by kernel_rfl) (by kernel_rfl) (fun _ _ _ _ h => by cases h.1) rfl v14_ ?_; (try simp only [Act.put, q1_, q2_, q3_]); (try simp only [q4_, q5_, q6_]); refine H.takeRun v13_ 6 rfl (by kernel_rfl) (by kernel_rfl) (by kernel_rfl) (fun _ _ _ _ h => by cases h.1) rfl v14_ ?_; (try simp only [Act.put, q1_, q2_, q3_]); (try simp only [q4_, q5_, q6_]); refine H.takeRun v13_ 7 rfl (by kernel_rfl) (by kernel_rfl) (by kernel_rfl) (fun _ _ _ _ h => by cases h.1) rfl v14_ ?_; (try simp only [Act.put, q1_, q2_, q3_]); (try simp only [q4_, q5_, q6_]); refine held_one (i := 9) (by kernel_rfl) rfl rfl ?_; refine H.ost rW rfl rfl (cells_agg _) v6_ (set_limbsR _ _) (by rfl) (by exact one_of rfl) v11_ ?_; intro w H; refine H.next v13_ ?_; (try simp only [Act.put]); refine H.takeRun v13_ 10 rfl (by kernel_rfl) (by kernel_rfl) (by kernel_rfl) (fun _ _ _ _ h => by cases h.1) rfl v14_ ?_; (try simp only [Act.put, q1_, q2_, q3_]); (try simp only [q4_, q5_, q6_]); refine wpAnyH_done (by kernel_rfl) ?_ _; (first | exact ⟨rfl, g8, rfl, H⟩ | exact ⟨rfl, g8, rfl, (H.perm (List.Perm.swap _ _ _))⟩ | exact ⟨rfl, g8, rfl, (H.perm (List.Perm.cons _ (List.Perm.swap _ _ _)))⟩ | exact ⟨rfl, g8, rfl, (H.perm ((List.Perm.swap _ _ _).trans (List.Perm.cons _ (List.Perm.swap _ _ _))))⟩ | exact ⟨rfl, g8, rfl, (H.perm ((List.Perm.cons _ (List.Perm.swap _ _ _)).trans (List.Perm.swap _ _ _)))⟩ | exact ⟨rfl, g8, rfl, (H.perm (((List.Perm.swap _ _ _).trans (List.Perm.cons _ (List.Perm.swap _ _ _))).trans (List.Perm.swap _ _ _)))⟩)); clear H; intro ga w H)
    | ((with_reducible show Code.wp _ (.region 5 _ true) _ _ _); refine H.heldSub rfl (List.Sublist.cons_cons _ (List.Sublist.cons_cons _ (List.Sublist.cons_cons _ (List.Sublist.cons _ (List.Sublist.refl _))))) ?_; intro H; refine H.takeRun v13_ 0 rfl (by kernel_rfl) (by kernel_rfl) (by kernel_rfl) (fun _ _ _ _ h => h) rfl v14_ ?_; (try simp only [Act.put, q1_, q2_, q3_]); (try simp only [q4_, q5_, q6_]); refine H.takeRun v13_ 1 rfl (by kernel_rfl) (by kernel_rfl) (by kernel_rfl) (fun _ _ _ _ h => h) rfl v14_ ?_; (try simp only [Act.put, q1_, q2_, q3_]); (try simp only [q4_, q5_, q6_]); (first | refine H.tk v13_ 2 rfl (by kernel_rfl) (by kernel_rfl) (by kernel_rfl) (fun _ _ _ _ h => h) rfl rW rfl rfl v2_ v4_ (by rfl) ?_ | refine H.tk1 v13_ 2 rfl (by kernel_rfl) (by kernel_rfl) (by kernel_rfl) (fun _ _ _ _ h => h) rfl oU rfl rfl v2_ v5_ ?_); (try simp only [Act.put, q1_, q2_, q3_]); (try simp only [q4_, q5_, q6_]); refine H.takeRun v13_ 3 rfl (by kernel_rfl) (by kernel_rfl) (by kernel_rfl) (fun _ _ _ _ h => h) rfl v14_ ?_; (try simp only [Act.put, q1_, q2_, q3_]); (try simp only [q4_, q5_, q6_]); refine H.takeRun v13_ 4 rfl (by kernel_rfl) (by kernel_rfl) (by kernel_rfl) (fun _ _ _ _ h => h) rfl v14_ ?_; (try simp only [Act.put, q1_, q2_, q3_]); (try simp only [q4_, q5_, q6_]); (first | refine H.tk v13_ 7 rfl (by kernel_rfl) (by kernel_rfl) (by kernel_rfl) (fun _ _ _ _ h => h) rfl rW rfl rfl v2_ v4_ (by rfl) ?_ | refine H.tk1 v13_ 7 rfl (by kernel_rfl) (by kernel_rfl) (by kernel_rfl) (fun _ _ _ _ h => h) rfl oU rfl rfl v2_ v5_ ?_); (try simp only [Act.put, q1_, q2_, q3_]); (try simp only [q4_, q5_, q6_]); refine held_one (i := 5) (by kernel_rfl) rfl rfl ?_; unfold Oper.wp; go_simp; (first | (go_at_call 43; ((with_reducible refine (cF _).mono ?_); rintro e w ⟨rfl, hb⟩; replace H := H.call hb; clear hb)) | (go_at_call 44; ((with_reducible refine (cW _).mono ?_); rintro e w ⟨rfl, hb⟩; replace H := H.call hb; clear hb)) | (go_at_call 68; ((with_reducible refine (cP _).mono ?_); rintro e w ⟨rfl, hb⟩; replace H := H.call hb; clear hb)) | (go_at_call 67; ((with_reducible refine (cB _).mono ?_); rintro e w ⟨rfl, hb⟩; replace H := H.call hb; clear hb)) | (go_at_call 80; ((with_reducible refine (cM _).mono ?_); rintro e w ⟨rfl, hb⟩; replace H := H.call hb; clear hb)) | (go_at_call 79; ((with_reducible refine (cA _).mono ?_); rintro e w ⟨rfl, hb⟩; replace H := H.call hb; clear hb)) | (go_at_call 81; ((with_reducible refine (cR _).mono ?_); rintro e w ⟨rfl, hb⟩; replace H := H.call hb; clear hb)) | (go_at_call 66; ((with_reducible refine (cO _).mono ?_); rintro e w ⟨rfl, hb⟩; replace H := H.call hb; clear hb))); refine H.next v13_ ?_; (try simp only [Act.put, q1_, q2_, q3_]); (try simp only [q4_, q5_, q6_]); refine H.takeRun v13_ 6 rfl (by kernel_rfl) (by kernel_rfl) (by kernel_rfl) (fun _ _ _ _ h => h) rfl v14_ ?_; (try simp only [Act.put, q1_, q2_, q3_]); (try simp only [q4_, q5_, q6_]); refine H.takeRun v13_ 8 rfl (by kernel_rfl) (by kernel_rfl) (by kernel_rfl) (fun _ _ _ _ h => h) rfl v14_ ?_; (try simp only [Act.put, q1_, q2_, q3_]); (try simp only [q4_, q5_, q6_]); refine H.takeRun v13_ 9 rfl (by kernel_rfl) (by kernel_rfl) (by kernel_rfl) (fun _ _ _ _ h => h) rfl v14_ ?_; (try simp only [Act.put, q1_, q2_, q3_]); (try simp only [q4_, q5_, q6_]); refine held_one (i := 10) (by kernel_rfl) rfl rfl ?_; (first | refine H.ost rW rfl rfl (cells_agg _) v6_ (set_limbsR _ _) (by rfl) (by exact one_of rfl) v11_ ?_ | refine H.ost1 oU rfl rfl (cells_int _ _) v6_ v10_ (by rfl) (by exact one_of rfl) v11_ ?_); intro w H; refine H.next v13_ ?_; (try simp only [Act.put]); refine wpAnyH_done (by kernel_rfl) ?_ _)
    | (go_at_call 43; ((with_reducible refine (cF _).mono ?_); rintro e w ⟨rfl, hb⟩; replace H := H.call hb; clear hb))
    | (go_at_call 44; ((with_reducible refine (cW _).mono ?_); rintro e w ⟨rfl, hb⟩; replace H := H.call hb; clear hb))
    | (go_at_call 68; ((with_reducible refine (cP _).mono ?_); rintro e w ⟨rfl, hb⟩; replace H := H.call hb; clear hb))
    | (go_at_call 67; ((with_reducible refine (cB _).mono ?_); rintro e w ⟨rfl, hb⟩; replace H := H.call hb; clear hb))
    | (go_at_call 80; ((with_reducible refine (cM _).mono ?_); rintro e w ⟨rfl, hb⟩; replace H := H.call hb; clear hb))
    | (go_at_call 79; ((with_reducible refine (cA _).mono ?_); rintro e w ⟨rfl, hb⟩; replace H := H.call hb; clear hb))
    | (go_at_call 81; ((with_reducible refine (cR _).mono ?_); rintro e w ⟨rfl, hb⟩; replace H := H.call hb; clear hb))
    | (go_at_call 66; ((with_reducible refine (cO _).mono ?_); rintro e w ⟨rfl, hb⟩; replace H := H.call hb; clear hb))
    )
  all_goals
    refine bodyPost_ret (results_ttc rfl rfl (H.res rW v2_ v4_ (by rfl))) rfl ⟨?_, H.below⟩
    exact rfl
theorem r7Fields_any (f b : Nat) (w : World) (hf : f < 4) (hb : b < 2 ^ (64 * 2)) :
    Calls Tryd.prog 54 #[.int .u8 f, BV b] w fun e w' => e = .returned (.tuple #[.bool (negN f b), .int .i64 (expN f b : Nat), W (b % 2 ^ (pF f - 1))]) ∧ Below w.heap.size w w' := by
  obtain ⟨p1, p2, n1, n2, np1, np2⟩ := formB f hf
  obtain ⟨-, -, k3, k4, k5, -, -⟩ := formK f hf
  have cW := fun w => r7Width_any f w
  have cP := fun w => r7Precision_any f w
  have cO := fun w => r7Ones_any f w
  have hbt := lt_top_bits b hb
  have e1 := exp_ones (b / 2 ^ (pF f - 1)) (wF f - pF f) (by omega)
  rw [k3, show 2 * eF f + 2 - 1 = 2 * eF f + 1 by omega] at e1
  have cM := fun w => r2Mask_any ((pF f - 1 : Nat) : Int) w
  have cA := fun w => r2And_any b (2 ^ (pF f - 1) - 1) w
  have cR := fun w => r2Right_any b ((pF f - 1 : Nat) : Int) w hbt
  rw [clip_of _ (by omega)] at cM cR
  rw [Nat.and_two_pow_sub_one_eq_mod] at cA
  have h := r7Fields_w f b (pF f - 1) (wF f - 1) (pF f) (wF f) (2 * eF f + 1) _ _ _ _ _ w
    (by rw [show (pF f : Int) - 1 = ((pF f - 1 : Nat) : Int) by omega]; exact IntWalk.i64_in _ (by omega))
    (by rw [show (wF f : Int) - 1 = ((wF f - 1 : Nat) : Int) by omega]; exact IntWalk.i64_in _ (by omega))
    (fun w => r2OfBits_any b w hb) cW cP (fun w => r2Bit_any b (wF f - 1) w (by omega)) cM cA cR cO
  rw [e1, ← k3] at h
  exact h
end Go.Proofs.YtecdpjhifmlahaaDoor
