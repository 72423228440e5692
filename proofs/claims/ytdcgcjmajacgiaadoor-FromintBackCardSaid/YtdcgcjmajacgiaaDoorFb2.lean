/- Part 2 of what is proved: Pf, Fi0, Pm, Pe, Fin, Pd. -/
import Derived.Test.YtdcgcjmajacgiaaDoorFb1
set_option linter.unusedSimpArgs false
set_option linter.unusedVariables false
set_option linter.unnecessarySimpa false
namespace Go.Proofs.YtdcgcjmajacgiaaDoor
/-- What was delivered without a flag is the number. -/
theorem pack_flagless (f m : Nat) (neg : Bool) (s : Nat) (e : Int) (hf : f < 4) (h0 : s ≠ 0) (hfl : (packB f m neg s e false).2 = 0) :
    ∃ c q, Can f c q ∧ (packB f m neg s e false).1 = encN f neg c q ∧ ((e ≤ q ∧ s = c * 2 ^ (q - e).toNat) ∨ (q ≤ e ∧ c = s * 2 ^ (e - q).toNat)) := by
  obtain ⟨h1, h2, h3, h4, h5, h6, h7, h8⟩ := formK f hf
  have hl := lenN_pos s h0
  have hA : atN f (lenN s - 1 + e) = max ((lenN s : Int) - 1 + e) (eminI f) - pF f + 1 := rfl
  unfold packB at *
  by_cases ht : (eF f : Int) < lenN s - 1 + e
  · rw [if_pos ht] at hfl; cases hfl
  · rw [if_neg ht] at hfl ⊢
    by_cases ht2 : (eF f : Int) < lenN (gridN m neg s e false (atN f (lenN s - 1 + e))).1 - 1 + atN f (lenN s - 1 + e)
    · rw [if_pos ht2] at hfl; cases hfl
    · rw [if_neg ht2] at hfl ⊢
      have hg2 : (gridN m neg s e false (atN f (lenN s - 1 + e))).2 = true := by
        cases hg : (gridN m neg s e false (atN f (lenN s - 1 + e))).2
        · rw [hg] at hfl; revert hfl; cases tinyB f m neg s e false (lenN s - 1 + e) <;> simp
        · rfl
      generalize atN f (lenN s - 1 + e) = A at *
      refine ⟨(gridN m neg s e false A).1, A, ?_, rfl, ?_⟩
      · by_cases hle : A ≤ e
        · have hk : (gridN m neg s e false A).1 = s * 2 ^ (e - A).toNat := by unfold gridN; rw [if_pos hle]
          rw [hk] at ht2 ⊢
          have hm := lenN_mul s (e - A).toNat h0
          have hne : s * 2 ^ (e - A).toNat ≠ 0 := by
            have := two_pos (e - A).toNat
            intro h; rcases Nat.mul_eq_zero.1 h with h | h <;> omega
          have hge := lenN_ge _ hne
          refine ⟨hne, (lenN_le _ _).1 (by rw [hm]; omega), by omega, by omega, ?_⟩
          by_cases hn : eminI f ≤ lenN s - 1 + e
          · left
            have : lenN (s * 2 ^ (e - A).toNat) = pF f := by rw [hm]; omega
            rw [this] at hge; exact hge
          · right; omega
        · have hz : s % 2 ^ (A - e).toNat = 0 := by
            unfold gridN at hg2; rw [if_neg hle] at hg2
            simpa using hg2
          have hk : (gridN m neg s e false A).1 = s / 2 ^ (A - e).toNat := by
            unfold gridN; rw [if_neg hle]; simp [hz, upB]
          rw [hk] at ht2 ⊢
          have hs : s / 2 ^ (A - e).toNat * 2 ^ (A - e).toNat = s := Nat.div_mul_cancel (Nat.dvd_of_mod_eq_zero hz)
          have hne : s / 2 ^ (A - e).toNat ≠ 0 := by intro h; rw [h, Nat.zero_mul] at hs; exact h0 hs.symm
          have hm := lenN_mul _ (A - e).toNat hne
          rw [hs] at hm
          have hge := lenN_ge _ hne
          refine ⟨hne, (lenN_le _ _).1 (by omega), by omega, by omega, ?_⟩
          by_cases hn : eminI f ≤ lenN s - 1 + e
          · left
            have : lenN (s / 2 ^ (A - e).toNat) = pF f := by omega
            rw [this] at hge; exact hge
          · right; omega
      · by_cases hle : A ≤ e
        · right; exact ⟨hle, by unfold gridN; rw [if_pos hle]⟩
        · left
          have hz : s % 2 ^ (A - e).toNat = 0 := by
            unfold gridN at hg2; rw [if_neg hle] at hg2
            simpa using hg2
          have hk : (gridN m neg s e false A).1 = s / 2 ^ (A - e).toNat := by
            unfold gridN; rw [if_neg hle]; simp [hz, upB]
          exact ⟨by omega, by rw [hk, Nat.div_mul_cancel (Nat.dvd_of_mod_eq_zero hz)]⟩
theorem lt_pow (T b c x : Nat) (h : T = 2 ^ c) (hb : b ≤ c) (hx : x < 2 ^ b) : x < T := by rw [h]; exact Nat.lt_of_lt_of_le hx (Nat.pow_le_pow_right (by decide) hb)
/-- The sign and the magnitude of a word of a kind. -/
def numNeg (k x : Nat) : Bool := if k = 0 then decide (2147483648 ≤ x % 4294967296) else if k = 2 then decide (9223372036854775808 ≤ x) else false
def numMag (k x : Nat) : Nat :=
  if k = 0 then (if 2147483648 ≤ x % 4294967296 then 4294967296 - x % 4294967296 else x % 4294967296)
  else if k = 1 then x % 4294967296 else if k = 2 then (if 9223372036854775808 ≤ x then 18446744073709551616 - x else x) else x
def fromN (f k m x : Nat) : Nat × Nat × Int := if k < 4 then packN f m (numNeg k x) (numMag k x) 0 false else (0, 0, 2)
/-- What comes back: the word itself, of the narrow kinds its lower half with its sign. -/
def backN (k x : Nat) : Nat := if k ≤ 1 then sext32 x else x
theorem same_grid (m : Nat) (neg : Bool) (s c : Nat) (e q : Int) (h : (e ≤ q ∧ s = c * 2 ^ (q - e).toNat) ∨ (q ≤ e ∧ c = s * 2 ^ (e - q).toNat)) (at_ : Int) : gridN m neg c q false at_ = gridN m neg s e false at_ := by
  rcases h with ⟨hle, rfl⟩ | ⟨hle, rfl⟩
  · exact grid_same ⟨hle, by rw [Nat.mul_div_cancel _ (two_pos _)], by rw [Nat.mul_mod_left]; rfl⟩ m neg at_
  · symm; exact grid_same ⟨hle, by rw [Nat.mul_div_cancel _ (two_pos _)], by rw [Nat.mul_mod_left]; rfl⟩ m neg at_
/-- The whole number of an encoding that is exactly n. -/
theorem whole_of_enc (f m n c : Nat) (q : Int) (neg : Bool) (hf : f < 4) (hm : m < 5) (hc : Can f c q) (hn : n < top6) (h0 : n ≠ 0) (h : ((0 : Int) ≤ q ∧ n = c * 2 ^ (q - 0).toNat) ∨ (q ≤ 0 ∧ c = n * 2 ^ ((0 : Int) - q).toNat)) :
    wholeE f m (encN f neg c q) = 0 ∧ wholeNeg f m (encN f neg c q) = neg ∧ wholeN f m (encN f neg c q) = n ∧ wholeX f m (encN f neg c q) = true := by
  obtain ⟨n1, n2, n3, n4, n5⟩ := enc_can f c q neg hf hc
  obtain ⟨c1, c2⟩ := fin_cls _ _ n5
  have hb := below_neg _ _ c1
  have hG : wholeG f m (encN f neg c q) = (n, true) := by
    unfold wholeG
    rw [n3, n4, same_grid m _ n c 0 q h 0]
    unfold gridN; rw [if_pos (Int.le_refl 0)]; simp
  have hF : noFin (clsN f (encN f neg c q)) = false := by unfold noFin; rw [decide_eq_false (by omega), decide_eq_false (by omega)]; rfl
  have hE : wholeE f m (encN f neg c q) = 0 := by
    unfold wholeE; rw [n1, decide_eq_true hm, hF, hG, decide_eq_false (by simp only []; omega)]; rfl
  refine ⟨hE, ?_, ?_, ?_⟩
  · unfold wholeNeg; rw [hE, hb, n2, hG, decide_eq_false h0]; simp
  · unfold wholeN; rw [hE, hG]; rfl
  · unfold wholeX; rw [hE, hG]; rfl
theorem num_lt (k x : Nat) (hx : x < 18446744073709551616) : numMag k x < 18446744073709551616 := by
  unfold numMag; split
  · split <;> omega
  · split
    · omega
    · split
      · split <;> omega
      · exact hx
/-- In the range of its own kind, and what is told of it. -/
theorem num_range (k x : Nat) (hk : k < 4) (hx : x < 18446744073709551616) :
    (numNeg k x = true → numMag k x ≤ lowK k ∧ numMag k x ≠ 0) ∧ (numNeg k x = false → numMag k x ≤ highK k) ∧ toldN k (numNeg k x) (numMag k x) = backN k x := by
  have : k = 0 ∨ k = 1 ∨ k = 2 ∨ k = 3 := by omega
  rcases this with rfl | rfl | rfl | rfl
  · rw [told_lo 0 _ _ (by decide)]
    unfold numNeg numMag backN lowK highK
    simp only [if_true, decide_eq_true_eq, decide_eq_false_iff_not, Nat.zero_le]
    by_cases h : 2147483648 ≤ x % 4294967296
    · rw [if_pos h, decide_eq_true h, neg64_t]
      refine ⟨fun _ => by omega, fun h' => absurd h h', ?_⟩
      rw [sext32_hi _ (by omega), sext32_hi x (by omega)]; omega
    · rw [if_neg h, decide_eq_false h, neg64_f]
      refine ⟨fun h' => absurd h' h, fun _ => by omega, ?_⟩
      rw [sext32_lo _ (by omega), sext32_lo x (by omega)]; omega
  · rw [told_lo 1 _ _ (by decide)]
    unfold numNeg numMag backN lowK highK
    simp only [if_true, if_neg (show ¬ (1 : Nat) = 0 by decide), if_neg (show ¬ (1 : Nat) = 2 by decide), Nat.le_refl]
    refine ⟨(fun h => by cases h), fun _ => by omega, ?_⟩
    rw [neg64_f]
    unfold sext32; rw [Nat.mod_mod]
  · rw [told_hi 2 _ _ (by decide)]
    unfold numNeg numMag backN lowK highK
    simp only [if_true, if_neg (show ¬ (2 : Nat) = 0 by decide), if_neg (show ¬ (2 : Nat) = 1 by decide), if_neg (show ¬ (2 : Nat) ≤ 1 by decide), decide_eq_true_eq, decide_eq_false_iff_not]
    by_cases h : 9223372036854775808 ≤ x
    · rw [if_pos h, decide_eq_true h, neg64_t]
      exact ⟨fun _ => by omega, fun h' => absurd h h', by omega⟩
    · rw [if_neg h, decide_eq_false h, neg64_f]
      exact ⟨fun h' => absurd h' h, fun _ => by omega, rfl⟩
  · rw [told_hi 3 _ _ (by decide)]
    unfold numNeg numMag backN lowK highK
    simp only [if_neg (show ¬ (3 : Nat) = 0 by decide), if_neg (show ¬ (3 : Nat) = 1 by decide), if_neg (show ¬ (3 : Nat) = 2 by decide), if_neg (show ¬ (3 : Nat) ≤ 1 by decide)]
    refine ⟨(fun h => by cases h), fun _ => by omega, ?_⟩
    rw [neg64_f]
/-- The law: what was not rounded comes back; into Quad, and of 32 bits into Double, nothing is rounded. -/
theorem from_back (f k m n x : Nat) (hf : f < 4) (hk : k < 4) (hm : m < 5) (hn : n < 5) (hx : x < 18446744073709551616) :
    (fromN f k m x).2.2 = 0 ∧ ((f = 3 ∨ f = 1 ∧ k ≤ 1) → (fromN f k m x).2.1 = 0) ∧
    ((fromN f k m x).2.1 = 0 → convN k f n (fromN f k m x).1 = (backN k x, 0, 0)) := by
  obtain ⟨h1, h2, h3, h4, h5, h6, h7, h8⟩ := formK f hf
  have hlt := num_lt k x hx
  obtain ⟨r1, r2, r3⟩ := num_range k x hk hx
  have hok : packOk f m (numMag k x) 0 false = true := by unfold packOk; simp [hf, hm]
  by_cases h0 : numMag k x = 0
  · have hneg : numNeg k x = false := by cases h : numNeg k x; rfl; exact absurd h0 (r1 h).2
    have hF : fromN f k m x = (zeroN f false, 0, 0) := by unfold fromN packN; rw [if_pos hk, if_pos hok, if_pos h0, hneg]
    rw [hF]
    refine ⟨rfl, fun _ => rfl, fun _ => ?_⟩
    obtain ⟨z1, z2⟩ := zero_parts f false hf
    have z3 : sigN f (zeroN f false) = 0 := by unfold sigN; rw [z2]; rfl
    have z4 : xpN f (zeroN f false) = 0 := by unfold xpN; rw [z2]; rfl
    have hG : wholeG f n (zeroN f false) = (0, true) := by
      unfold wholeG; rw [z3, z4]; unfold gridN; rw [if_pos (Int.le_refl 0)]; simp
    have hE : wholeE f n (zeroN f false) = 0 := by
      unfold wholeE; rw [z1, z2, decide_eq_true hn, hG]
      have : (0 : Nat) < top6 := lt_pow top6 0 (64 * 6) 0 top6.eq_1 (by decide) (by decide)
      rw [decide_eq_false (by simp only []; omega)]; rfl
    have hb : backN k x = toldN k false 0 := by rw [← r3, hneg, h0]
    have hc : convOk k f n (zeroN f false) = true := by unfold convOk; rw [z1, decide_eq_true hk, decide_eq_true hn]; rfl
    have hw0 : wholeN f n (zeroN f false) = 0 := by unfold wholeN; rw [hE, hG]; rfl
    have hwn : wholeNeg f n (zeroN f false) = false := by unfold wholeNeg; rw [hG]; simp
    have hwx : wholeX f n (zeroN f false) = true := by unfold wholeX; rw [hE, hG]; rfl
    unfold convN; rw [hc]
    unfold convR
    rw [if_pos hE, hwn, hw0, hwx, if_neg (by simp), if_neg (by simp), hb]; rfl
  · have hF : fromN f k m x = ((packB f m (numNeg k x) (numMag k x) 0 false).1, (packB f m (numNeg k x) (numMag k x) 0 false).2, 0) := by
      unfold fromN packN; rw [if_pos hk, if_pos hok, if_neg h0]
    rw [hF]
    refine ⟨rfl, fun hfk => ?_, fun hfl => ?_⟩
    · have hl : lenN (numMag k x) ≤ pF f := by
        rcases hfk with rfl | ⟨rfl, hk1⟩
        · exact Nat.le_trans ((lenN_le _ 64).2 hlt) (by decide)
        · refine Nat.le_trans ((lenN_le _ 33).2 ?_) (by decide)
          unfold numMag
          have : k = 0 ∨ k = 1 := by omega
          rcases this with rfl | rfl
          · simp only [if_true]; split <;> omega
          · simp only [if_true, if_neg (show ¬ (1 : Nat) = 0 by decide)]; omega
      have hl1 := lenN_pos _ h0
      have hem : 63 ≤ eF f ∨ lenN (numMag k x) - 1 ≤ eF f := by
        rcases hfk with rfl | ⟨rfl, hk1⟩ <;> (left; decide)
      have hat : atN f (lenN (numMag k x) - 1 + 0) ≤ 0 := by unfold atN; omega
      have hl64 := (lenN_le (numMag k x) 64).2 hlt
      have hcan := can_mk f (numMag k x) 0 hf h0 hat (by omega)
      rw [pack_exact f m _ (numMag k x) _ 0 (numNeg k x) hf hcan (Or.inr ⟨hat, rfl⟩)]
    · obtain ⟨c, q, hcan, he, hrel⟩ := pack_flagless f m (numNeg k x) (numMag k x) 0 hf h0 hfl
      rw [he]
      obtain ⟨w1, w2, w3, w4⟩ := whole_of_enc f n (numMag k x) c q (numNeg k x) hf hn hcan (lt_pow top6 64 (64 * 6) _ top6.eq_1 (by decide) hlt) h0 hrel
      obtain ⟨n1, -⟩ := enc_can f c q (numNeg k x) hf hcan
      have hc : convOk k f n (encN f (numNeg k x) c q) = true := by unfold convOk; rw [n1, decide_eq_true hk, decide_eq_true hn]; rfl
      unfold convN; rw [hc]
      unfold convR
      rw [if_pos w1, w2, w3, w4, Nat.mod_eq_of_lt hlt, r3]
      rw [if_neg (fun h => by have := (r1 h.1).1; omega), if_neg (fun h => by have := r2 h.1; omega)]; rfl
end Go.Proofs.YtdcgcjmajacgiaaDoor

namespace Go.Proofs.YtdcgcjmajacgiaaDoor
open Go.RowKit
theorem rD : IsRow Tryd.prog 94 2 #[.int .u8 0, .nilFunc] := ⟨⟨_, Tryd.underlying94, rfl⟩, by kernel_rfl, by kernel_rfl⟩
theorem rE : IsRow Tryd.prog 95 8 #[.int .u8 0, .nilFunc, .int .u8 0, .nilFunc, .int .u8 0, .nilFunc, .int .u8 0, .nilFunc] := ⟨⟨_, Tryd.underlying95, rfl⟩, by kernel_rfl, by kernel_rfl⟩
theorem oK : IsOne Tryd.prog 23 := ⟨⟨_, Tryd.underlying23, rfl⟩, by kernel_rfl⟩
theorem oX : IsOne Tryd.prog 92 := ⟨⟨_, Tryd.underlying92, rfl⟩, by kernel_rfl⟩
theorem wp_index {P : Program} {w : World} {op : Oper} {a : Act} {Q : Exit → Act → World → Prop} {ops : Array Oper} {rest : List Oper} {t : TypeId} {x y : Operand} (hw : Region.wanted op (yielded ops a.tmps) = true) (ho : op.op = .index t x y) {v u i : Value} (hx : a.eval x = u) (hi : a.eval y = i)
    (hv : ∀ w, (Instr.index t u i).run P w = .ok v w) (h : wpList P ops Q rest (a.put op.dst v) w) : wpList P ops Q (op :: rest) a w := by
  refine wp_wanted hw fun K hK => ?_
  subst hx hi
  have hk := hK _ _ h
  unfold Oper.wp execOp
  simp only [ho, Sem.run_bind, hv, Result.andThen_ok]
  exact hk
theorem ix_0 (w : World) : (Instr.index 95 (.agg #[.int .u8 0, .func (.func 80) #[] #[], .int .u8 1, .func (.func 82) #[] #[], .int .u8 2, .func (.func 83) #[] #[], .int .u8 3, .func (.func 84) #[] #[]]) (.int .i64 0)).run Tryd.prog w = .ok (.agg #[.int .u8 0, .func (.func 80) #[] #[]]) w := by kernel_rfl
theorem ix_1 (w : World) : (Instr.index 95 (.agg #[.int .u8 0, .func (.func 80) #[] #[], .int .u8 1, .func (.func 82) #[] #[], .int .u8 2, .func (.func 83) #[] #[], .int .u8 3, .func (.func 84) #[] #[]]) (.int .i64 1)).run Tryd.prog w = .ok (.agg #[.int .u8 1, .func (.func 82) #[] #[]]) w := by kernel_rfl
theorem ix_2 (w : World) : (Instr.index 95 (.agg #[.int .u8 0, .func (.func 80) #[] #[], .int .u8 1, .func (.func 82) #[] #[], .int .u8 2, .func (.func 83) #[] #[], .int .u8 3, .func (.func 84) #[] #[]]) (.int .i64 2)).run Tryd.prog w = .ok (.agg #[.int .u8 2, .func (.func 83) #[] #[]]) w := by kernel_rfl
theorem ix_3 (w : World) : (Instr.index 95 (.agg #[.int .u8 0, .func (.func 80) #[] #[], .int .u8 1, .func (.func 82) #[] #[], .int .u8 2, .func (.func 83) #[] #[], .int .u8 3, .func (.func 84) #[] #[]]) (.int .i64 3)).run Tryd.prog w = .ok (.agg #[.int .u8 3, .func (.func 84) #[] #[]]) w := by kernel_rfl
theorem ext_v8 (a b c d e f g h : Value) : #[a, b, c, d, e, f, g, h].extract 0 (0 + #[a, b, c, d, e, f, g, h].size) = #[a, b, c, d, e, f, g, h] := by rw [Nat.zero_add]; exact Array.extract_size
theorem set_v2 (a b c d : Value) : setRow #[a, b] 0 (#[c, d] : Array Value).toList = #[c, d] := set_all _ _ rfl
theorem set_v8 (a b c d e f g h a' b' c' d' e' f' g' h' : Value) : setRow #[a, b, c, d, e, f, g, h] 0 (#[a', b', c', d', e', f', g', h'] : Array Value).toList = #[a', b', c', d', e', f', g', h'] := set_all _ _ rfl
set_option maxRecDepth 100000 in
theorem walk81 {P : Prop} (h : P := by
  go_wp2_with (first
    | ((with_reducible show wpList _ _ _ (⟨_, .box _ _, _, _, _, _⟩ :: _) _ _); refine H.box rfl rfl (cells_agg _) ?_; (intro g w H; simp only [Act.put, List.setIfInBounds_toArray, List.set_cons_zero, List.set_cons_succ]))
    | ((with_reducible show wpList _ _ _ (⟨_, .load 25 _, _, _, _, _⟩ :: _) _ _); refine H.ld1 rfl oU rfl rfl (by repeat (first | with_reducible exact List.mem_cons_self | apply List.mem_cons_of_mem)) (by first | with_reducible exact get_20 _ _ | with_reducible exact get_21 _ _ | with_reducible exact limbs_o0 _ | with_reducible exact limbs_o1 _ | with_reducible exact limbs_o2 _ | with_reducible exact limbs_o3 _ | with_reducible exact limbs_o4 _ | with_reducible exact limbs_o5 _) ?_; simp only [Act.put, List.setIfInBounds_toArray, List.set_cons_zero, List.set_cons_succ])
    | ((with_reducible show wpList _ _ _ (⟨_, .store 25 _ _, _, _, _, _⟩ :: _) _ _); refine H.st1 rfl oU rfl rfl (cells_int _ _) (by repeat (first | with_reducible exact Upd.head _ | apply Upd.tail)) (by first | with_reducible exact set_20 _ _ _ | with_reducible exact set_21 _ _ _ | with_reducible exact set_10 _ _) (by rfl) (by exact one_of rfl) (by first | exact ble_le rfl | (change _ + 1 ≤ 12; omega) | (change _ + 1 ≤ 6; omega)) ?_; (intro w H; simp only [Act.put]))
    )
  all_goals (first | (go_ret2; exact ⟨by rw [← hn]; rfl, H.below⟩) | (go_ret2; exact ⟨by rfl, H.below⟩))) : P := h
set_option maxHeartbeats 1600000 in
set_option maxRecDepth 100000 in
theorem fiSigned_neg (s n : Int) (w : World) (h1 : -9223372036854775808 ≤ s) (h2 : s < 9223372036854775808) (h : s < 0) (hn : IntKind.u64.wrap (-IntKind.u64.wrap s) = n)  :
    Calls Tryd.prog 81 #[.int .i64 s] w fun e w' => e = .returned (.tuple #[.bool true, .int .u64 n]) ∧ Below w.heap.size w w' := by
  have H := Own.start w
  go_enter Tryd.func81, Tryd.ntmps81
  exact walk81
set_option maxHeartbeats 1600000 in
set_option maxRecDepth 100000 in
theorem fiSigned_pos (s : Int) (w : World) (h1 : -9223372036854775808 ≤ s) (h2 : s < 9223372036854775808) (h : ¬ s < 0)  :
    Calls Tryd.prog 81 #[.int .i64 s] w fun e w' => e = .returned (.tuple #[.bool false, .int .u64 s]) ∧ Below w.heap.size w w' := by
  have H := Own.start w
  go_enter Tryd.func81, Tryd.ntmps81
  exact walk81
set_option maxHeartbeats 1600000 in
set_option maxRecDepth 100000 in
theorem fiClo1 (x : Nat) (w : World) (hx : x < 18446744073709551616) (ng : Bool) (n : Int) (cS : ∀ w, Calls Tryd.prog 81 #[.int .i64 (wrap64 (wrap32 ((x : Int) % 4294967296)))] w fun e w' => e = .returned (.tuple #[.bool ng, .int .u64 n]) ∧ Below w.heap.size w w') :
    Calls Tryd.prog 80 #[.int .u64 x] w fun e w' => e = .returned (.tuple #[.bool ng, .int .u64 n]) ∧ Below w.heap.size w w' := by
  have H := Own.start w
  go_enter Tryd.func80, Tryd.ntmps80
  go_wp2_with (first
    | ((with_reducible show wpList _ _ _ (⟨_, .box _ _, _, _, _, _⟩ :: _) _ _); refine H.box rfl rfl (cells_agg _) ?_; (intro g w H; simp only [Act.put, List.setIfInBounds_toArray, List.set_cons_zero, List.set_cons_succ]))
    | ((with_reducible show wpList _ _ _ (⟨_, .load 25 _, _, _, _, _⟩ :: _) _ _); refine H.ld1 rfl oU rfl rfl (by repeat (first | with_reducible exact List.mem_cons_self | apply List.mem_cons_of_mem)) (by first | with_reducible exact get_20 _ _ | with_reducible exact get_21 _ _ | with_reducible exact limbs_o0 _ | with_reducible exact limbs_o1 _ | with_reducible exact limbs_o2 _ | with_reducible exact limbs_o3 _ | with_reducible exact limbs_o4 _ | with_reducible exact limbs_o5 _) ?_; simp only [Act.put, List.setIfInBounds_toArray, List.set_cons_zero, List.set_cons_succ])
    | ((with_reducible show wpList _ _ _ (⟨_, .store 25 _ _, _, _, _, _⟩ :: _) _ _); refine H.st1 rfl oU rfl rfl (cells_int _ _) (by repeat (first | with_reducible exact Upd.head _ | apply Upd.tail)) (by first | with_reducible exact set_20 _ _ _ | with_reducible exact set_21 _ _ _ | with_reducible exact set_10 _ _) (by rfl) (by exact one_of rfl) (by first | exact ble_le rfl | (change _ + 1 ≤ 12; omega) | (change _ + 1 ≤ 6; omega)) ?_; (intro w H; simp only [Act.put]))
    | (go_at_call 81; ((with_reducible refine (cS _).mono ?_); rintro e w ⟨rfl, hb⟩; replace H := H.call hb; clear hb))
    )
  all_goals
    go_ret2
    exact ⟨by rfl, H.below⟩
set_option maxHeartbeats 1600000 in
set_option maxRecDepth 100000 in
theorem fiClo2 (x : Nat) (w : World) (hx : x < 18446744073709551616)  :
    Calls Tryd.prog 82 #[.int .u64 x] w fun e w' => e = .returned (.tuple #[.bool false, .int .u64 ((x : Int) % 4294967296)]) ∧ Below w.heap.size w w' := by
  have H := Own.start w
  go_enter Tryd.func82, Tryd.ntmps82
  go_wp2_with (first
    | ((with_reducible show wpList _ _ _ (⟨_, .box _ _, _, _, _, _⟩ :: _) _ _); refine H.box rfl rfl (cells_agg _) ?_; (intro g w H; simp only [Act.put, List.setIfInBounds_toArray, List.set_cons_zero, List.set_cons_succ]))
    | ((with_reducible show wpList _ _ _ (⟨_, .load 25 _, _, _, _, _⟩ :: _) _ _); refine H.ld1 rfl oU rfl rfl (by repeat (first | with_reducible exact List.mem_cons_self | apply List.mem_cons_of_mem)) (by first | with_reducible exact get_20 _ _ | with_reducible exact get_21 _ _ | with_reducible exact limbs_o0 _ | with_reducible exact limbs_o1 _ | with_reducible exact limbs_o2 _ | with_reducible exact limbs_o3 _ | with_reducible exact limbs_o4 _ | with_reducible exact limbs_o5 _) ?_; simp only [Act.put, List.setIfInBounds_toArray, List.set_cons_zero, List.set_cons_succ])
    | ((with_reducible show wpList _ _ _ (⟨_, .store 25 _ _, _, _, _, _⟩ :: _) _ _); refine H.st1 rfl oU rfl rfl (cells_int _ _) (by repeat (first | with_reducible exact Upd.head _ | apply Upd.tail)) (by first | with_reducible exact set_20 _ _ _ | with_reducible exact set_21 _ _ _ | with_reducible exact set_10 _ _) (by rfl) (by exact one_of rfl) (by first | exact ble_le rfl | (change _ + 1 ≤ 12; omega) | (change _ + 1 ≤ 6; omega)) ?_; (intro w H; simp only [Act.put]))
    | (go_at_call 81; ((with_reducible refine (cS _).mono ?_); rintro e w ⟨rfl, hb⟩; replace H := H.call hb; clear hb))
    )
  all_goals
    go_ret2
    exact ⟨by rfl, H.below⟩
set_option maxHeartbeats 1600000 in
set_option maxRecDepth 100000 in
theorem fiClo3 (x : Nat) (w : World) (hx : x < 18446744073709551616) (ng : Bool) (n : Int) (cS : ∀ w, Calls Tryd.prog 81 #[.int .i64 (wrap64 (x : Int))] w fun e w' => e = .returned (.tuple #[.bool ng, .int .u64 n]) ∧ Below w.heap.size w w') :
    Calls Tryd.prog 83 #[.int .u64 x] w fun e w' => e = .returned (.tuple #[.bool ng, .int .u64 n]) ∧ Below w.heap.size w w' := by
  have H := Own.start w
  go_enter Tryd.func83, Tryd.ntmps83
  go_wp2_with (first
    | ((with_reducible show wpList _ _ _ (⟨_, .box _ _, _, _, _, _⟩ :: _) _ _); refine H.box rfl rfl (cells_agg _) ?_; (intro g w H; simp only [Act.put, List.setIfInBounds_toArray, List.set_cons_zero, List.set_cons_succ]))
    | ((with_reducible show wpList _ _ _ (⟨_, .load 25 _, _, _, _, _⟩ :: _) _ _); refine H.ld1 rfl oU rfl rfl (by repeat (first | with_reducible exact List.mem_cons_self | apply List.mem_cons_of_mem)) (by first | with_reducible exact get_20 _ _ | with_reducible exact get_21 _ _ | with_reducible exact limbs_o0 _ | with_reducible exact limbs_o1 _ | with_reducible exact limbs_o2 _ | with_reducible exact limbs_o3 _ | with_reducible exact limbs_o4 _ | with_reducible exact limbs_o5 _) ?_; simp only [Act.put, List.setIfInBounds_toArray, List.set_cons_zero, List.set_cons_succ])
    | ((with_reducible show wpList _ _ _ (⟨_, .store 25 _ _, _, _, _, _⟩ :: _) _ _); refine H.st1 rfl oU rfl rfl (cells_int _ _) (by repeat (first | with_reducible exact Upd.head _ | apply Upd.tail)) (by first | with_reducible exact set_20 _ _ _ | with_reducible exact set_21 _ _ _ | with_reducible exact set_10 _ _) (by rfl) (by exact one_of rfl) (by first | exact ble_le rfl | (change _ + 1 ≤ 12; omega) | (change _ + 1 ≤ 6; omega)) ?_; (intro w H; simp only [Act.put]))
    | (go_at_call 81; ((with_reducible refine (cS _).mono ?_); rintro e w ⟨rfl, hb⟩; replace H := H.call hb; clear hb))
    )
  all_goals
    go_ret2
    exact ⟨by rfl, H.below⟩
set_option maxHeartbeats 1600000 in
set_option maxRecDepth 100000 in
theorem fiClo4 (x : Nat) (w : World) (hx : x < 18446744073709551616)  :
    Calls Tryd.prog 84 #[.int .u64 x] w fun e w' => e = .returned (.tuple #[.bool false, .int .u64 x]) ∧ Below w.heap.size w w' := by
  have H := Own.start w
  go_enter Tryd.func84, Tryd.ntmps84
  go_wp2_with (first
    | ((with_reducible show wpList _ _ _ (⟨_, .box _ _, _, _, _, _⟩ :: _) _ _); refine H.box rfl rfl (cells_agg _) ?_; (intro g w H; simp only [Act.put, List.setIfInBounds_toArray, List.set_cons_zero, List.set_cons_succ]))
    | ((with_reducible show wpList _ _ _ (⟨_, .load 25 _, _, _, _, _⟩ :: _) _ _); refine H.ld1 rfl oU rfl rfl (by repeat (first | with_reducible exact List.mem_cons_self | apply List.mem_cons_of_mem)) (by first | with_reducible exact get_20 _ _ | with_reducible exact get_21 _ _ | with_reducible exact limbs_o0 _ | with_reducible exact limbs_o1 _ | with_reducible exact limbs_o2 _ | with_reducible exact limbs_o3 _ | with_reducible exact limbs_o4 _ | with_reducible exact limbs_o5 _) ?_; simp only [Act.put, List.setIfInBounds_toArray, List.set_cons_zero, List.set_cons_succ])
    | ((with_reducible show wpList _ _ _ (⟨_, .store 25 _ _, _, _, _, _⟩ :: _) _ _); refine H.st1 rfl oU rfl rfl (cells_int _ _) (by repeat (first | with_reducible exact Upd.head _ | apply Upd.tail)) (by first | with_reducible exact set_20 _ _ _ | with_reducible exact set_21 _ _ _ | with_reducible exact set_10 _ _) (by rfl) (by exact one_of rfl) (by first | exact ble_le rfl | (change _ + 1 ≤ 12; omega) | (change _ + 1 ≤ 6; omega)) ?_; (intro w H; simp only [Act.put]))
    | (go_at_call 81; ((with_reducible refine (cS _).mono ?_); rintro e w ⟨rfl, hb⟩; replace H := H.call hb; clear hb))
    )
  all_goals
    go_ret2
    exact ⟨by rfl, H.below⟩
set_option maxHeartbeats 3200000 in
set_option maxRecDepth 100000 in
theorem fiNumber_k0 (x : Nat) (w0 : World) (ng : Bool) (n : Int) (cX : ∀ w, Calls Tryd.prog 80 #[.int .u64 x] w fun e w' => e = .returned (.tuple #[.bool ng, .int .u64 n]) ∧ Below w.heap.size w w') :
    Calls Tryd.prog 31 #[.int .u8 0, .int .u64 x] w0 fun e w' => e = .returned (.tuple #[.bool ng, .int .u64 n, .int .i64 0]) ∧ Below w0.heap.size w0 w' := by
  have H := Own.start w0
  go_enter Tryd.func31, Tryd.ntmps31
  go_wp2_with (first
    | ((with_reducible show wpList _ _ _ (⟨_, .box _ _, _, _, _, _⟩ :: _) _ _); refine H.box rfl rfl (cells_agg _) ?_; (intro g w H; simp only [Act.put, List.setIfInBounds_toArray, List.set_cons_zero, List.set_cons_succ]))
    | ((with_reducible show wpList _ _ _ (⟨_, .alloc 94, _, _, _, _⟩ :: _) _ _); refine H.mk0 rfl rD rfl ?_; (intro g w H; simp only [Act.put, List.setIfInBounds_toArray, List.set_cons_zero, List.set_cons_succ]))
    | ((with_reducible show wpList _ _ _ (⟨_, .alloc 95, _, _, _, _⟩ :: _) _ _); refine H.mk0 rfl rE rfl ?_; (intro g w H; simp only [Act.put, List.setIfInBounds_toArray, List.set_cons_zero, List.set_cons_succ]))
    | ((with_reducible show wpList _ _ _ (⟨_, .load 94 _, _, _, _, _⟩ :: _) _ _); refine H.ld rfl rD rfl rfl (by repeat (first | with_reducible exact List.mem_cons_self | apply List.mem_cons_of_mem)) (by first | with_reducible exact ext_2 _ _) (by rfl) ?_; simp only [Act.put, List.setIfInBounds_toArray, List.set_cons_zero, List.set_cons_succ])
    | ((with_reducible show wpList _ _ _ (⟨_, .load 95 _, _, _, _, _⟩ :: _) _ _); refine H.ld rfl rE rfl rfl (by repeat (first | with_reducible exact List.mem_cons_self | apply List.mem_cons_of_mem)) (by first | with_reducible exact ext_v8 _ _ _ _ _ _ _ _ ) (by rfl) ?_; simp only [Act.put, List.setIfInBounds_toArray, List.set_cons_zero, List.set_cons_succ])
    | ((with_reducible show wpList _ _ _ (⟨_, .load 23 _, _, _, _, _⟩ :: _) _ _); refine H.ld1 rfl oK rfl rfl (by repeat (first | with_reducible exact List.mem_cons_self | apply List.mem_cons_of_mem)) (by first | with_reducible exact get_20 _ _) ?_; simp only [Act.put, List.setIfInBounds_toArray, List.set_cons_zero, List.set_cons_succ])
    | ((with_reducible show wpList _ _ _ (⟨_, .load 92 _, _, _, _, _⟩ :: _) _ _); refine H.ld1 rfl oX rfl rfl (by repeat (first | with_reducible exact List.mem_cons_self | apply List.mem_cons_of_mem)) (by first | with_reducible exact get_21 _ _) ?_; simp only [Act.put, List.setIfInBounds_toArray, List.set_cons_zero, List.set_cons_succ])
    | ((with_reducible show wpList _ _ _ (⟨_, .store 94 _ _, _, _, _, _⟩ :: _) _ _); refine H.st rfl rD rfl rfl (cells_agg _) (by repeat (first | with_reducible exact Upd.head _ | apply Upd.tail)) (set_v2 _ _ _ _) (by rfl) (by exact one_of rfl) (by first | exact ble_le rfl | (change _ + 1 ≤ 12; omega) | (change _ + 1 ≤ 6; omega)) ?_; (intro w H; simp only [Act.put]))
    | ((with_reducible show wpList _ _ _ (⟨_, .store 95 _ _, _, _, _, _⟩ :: _) _ _); refine H.st rfl rE rfl rfl (cells_agg _) (by repeat (first | with_reducible exact Upd.head _ | apply Upd.tail)) (set_v8 _ _ _ _ _ _ _ _ _ _ _ _ _ _ _ _ ) (by rfl) (by exact one_of rfl) (by first | exact ble_le rfl | (change _ + 1 ≤ 12; omega) | (change _ + 1 ≤ 6; omega)) ?_; (intro w H; simp only [Act.put]))
    | ((with_reducible show wpList _ _ _ (⟨_, .index _ _ _, _, _, _, _⟩ :: _) _ _); (first | refine wp_index rfl rfl rfl rfl ix_0 ?_ | refine wp_index rfl rfl rfl rfl ix_1 ?_ | refine wp_index rfl rfl rfl rfl ix_2 ?_ | refine wp_index rfl rfl rfl rfl ix_3 ?_); simp only [Act.put, List.setIfInBounds_toArray, List.set_cons_zero, List.set_cons_succ])
    | (go_at_call 80; ((with_reducible refine (cX _).mono ?_); rintro e w ⟨rfl, hb⟩; replace H := H.call hb; clear hb))
    | (go_at_call 82; ((with_reducible refine (cX _).mono ?_); rintro e w ⟨rfl, hb⟩; replace H := H.call hb; clear hb))
    | (go_at_call 83; ((with_reducible refine (cX _).mono ?_); rintro e w ⟨rfl, hb⟩; replace H := H.call hb; clear hb))
    | (go_at_call 84; ((with_reducible refine (cX _).mono ?_); rintro e w ⟨rfl, hb⟩; replace H := H.call hb; clear hb))
    )
  go_loopw [16] (fun i wr => (i = .int .i64 0 ∧ Own w0 wr [])) (fun i _ => 5 - (intOf i).toNat)
  case atStart => exact ⟨rfl, H.sub (List.nil_sublist _)⟩
  case round =>
    clear H
    obtain ⟨rfl, H⟩ := hrel
    · go_wp2_with (first
      | ((with_reducible show wpList _ _ _ (⟨_, .box _ _, _, _, _, _⟩ :: _) _ _); refine H.box rfl rfl (cells_agg _) ?_; (intro g w H; simp only [Act.put, List.setIfInBounds_toArray, List.set_cons_zero, List.set_cons_succ]))
      | ((with_reducible show wpList _ _ _ (⟨_, .alloc 94, _, _, _, _⟩ :: _) _ _); refine H.mk0 rfl rD rfl ?_; (intro g w H; simp only [Act.put, List.setIfInBounds_toArray, List.set_cons_zero, List.set_cons_succ]))
      | ((with_reducible show wpList _ _ _ (⟨_, .alloc 95, _, _, _, _⟩ :: _) _ _); refine H.mk0 rfl rE rfl ?_; (intro g w H; simp only [Act.put, List.setIfInBounds_toArray, List.set_cons_zero, List.set_cons_succ]))
      | ((with_reducible show wpList _ _ _ (⟨_, .load 94 _, _, _, _, _⟩ :: _) _ _); refine H.ld rfl rD rfl rfl (by repeat (first | with_reducible exact List.mem_cons_self | apply List.mem_cons_of_mem)) (by first | with_reducible exact ext_2 _ _) (by rfl) ?_; simp only [Act.put, List.setIfInBounds_toArray, List.set_cons_zero, List.set_cons_succ])
      | ((with_reducible show wpList _ _ _ (⟨_, .load 95 _, _, _, _, _⟩ :: _) _ _); refine H.ld rfl rE rfl rfl (by repeat (first | with_reducible exact List.mem_cons_self | apply List.mem_cons_of_mem)) (by first | with_reducible exact ext_v8 _ _ _ _ _ _ _ _ ) (by rfl) ?_; simp only [Act.put, List.setIfInBounds_toArray, List.set_cons_zero, List.set_cons_succ])
      | ((with_reducible show wpList _ _ _ (⟨_, .load 23 _, _, _, _, _⟩ :: _) _ _); refine H.ld1 rfl oK rfl rfl (by repeat (first | with_reducible exact List.mem_cons_self | apply List.mem_cons_of_mem)) (by first | with_reducible exact get_20 _ _) ?_; simp only [Act.put, List.setIfInBounds_toArray, List.set_cons_zero, List.set_cons_succ])
      | ((with_reducible show wpList _ _ _ (⟨_, .load 92 _, _, _, _, _⟩ :: _) _ _); refine H.ld1 rfl oX rfl rfl (by repeat (first | with_reducible exact List.mem_cons_self | apply List.mem_cons_of_mem)) (by first | with_reducible exact get_21 _ _) ?_; simp only [Act.put, List.setIfInBounds_toArray, List.set_cons_zero, List.set_cons_succ])
      | ((with_reducible show wpList _ _ _ (⟨_, .store 94 _ _, _, _, _, _⟩ :: _) _ _); refine H.st rfl rD rfl rfl (cells_agg _) (by repeat (first | with_reducible exact Upd.head _ | apply Upd.tail)) (set_v2 _ _ _ _) (by rfl) (by exact one_of rfl) (by first | exact ble_le rfl | (change _ + 1 ≤ 12; omega) | (change _ + 1 ≤ 6; omega)) ?_; (intro w H; simp only [Act.put]))
      | ((with_reducible show wpList _ _ _ (⟨_, .store 95 _ _, _, _, _, _⟩ :: _) _ _); refine H.st rfl rE rfl rfl (cells_agg _) (by repeat (first | with_reducible exact Upd.head _ | apply Upd.tail)) (set_v8 _ _ _ _ _ _ _ _ _ _ _ _ _ _ _ _ ) (by rfl) (by exact one_of rfl) (by first | exact ble_le rfl | (change _ + 1 ≤ 12; omega) | (change _ + 1 ≤ 6; omega)) ?_; (intro w H; simp only [Act.put]))
      | ((with_reducible show wpList _ _ _ (⟨_, .index _ _ _, _, _, _, _⟩ :: _) _ _); (first | refine wp_index rfl rfl rfl rfl ix_0 ?_ | refine wp_index rfl rfl rfl rfl ix_1 ?_ | refine wp_index rfl rfl rfl rfl ix_2 ?_ | refine wp_index rfl rfl rfl rfl ix_3 ?_); simp only [Act.put, List.setIfInBounds_toArray, List.set_cons_zero, List.set_cons_succ])
      | (go_at_call 80; ((with_reducible refine (cX _).mono ?_); rintro e w ⟨rfl, hb⟩; replace H := H.call hb; clear hb))
      | (go_at_call 82; ((with_reducible refine (cX _).mono ?_); rintro e w ⟨rfl, hb⟩; replace H := H.call hb; clear hb))
      | (go_at_call 83; ((with_reducible refine (cX _).mono ?_); rintro e w ⟨rfl, hb⟩; replace H := H.call hb; clear hb))
      | (go_at_call 84; ((with_reducible refine (cX _).mono ?_); rintro e w ⟨rfl, hb⟩; replace H := H.call hb; clear hb))
      )
      all_goals
        go_ret3
        exact ⟨by rfl, H.below⟩
set_option maxHeartbeats 3200000 in
set_option maxRecDepth 100000 in
theorem fiNumber_k1 (x : Nat) (w0 : World) (ng : Bool) (n : Int) (cX : ∀ w, Calls Tryd.prog 82 #[.int .u64 x] w fun e w' => e = .returned (.tuple #[.bool ng, .int .u64 n]) ∧ Below w.heap.size w w') :
    Calls Tryd.prog 31 #[.int .u8 1, .int .u64 x] w0 fun e w' => e = .returned (.tuple #[.bool ng, .int .u64 n, .int .i64 0]) ∧ Below w0.heap.size w0 w' := by
  have H := Own.start w0
  go_enter Tryd.func31, Tryd.ntmps31
  go_wp2_with (first
    | ((with_reducible show wpList _ _ _ (⟨_, .box _ _, _, _, _, _⟩ :: _) _ _); refine H.box rfl rfl (cells_agg _) ?_; (intro g w H; simp only [Act.put, List.setIfInBounds_toArray, List.set_cons_zero, List.set_cons_succ]))
    | ((with_reducible show wpList _ _ _ (⟨_, .alloc 94, _, _, _, _⟩ :: _) _ _); refine H.mk0 rfl rD rfl ?_; (intro g w H; simp only [Act.put, List.setIfInBounds_toArray, List.set_cons_zero, List.set_cons_succ]))
    | ((with_reducible show wpList _ _ _ (⟨_, .alloc 95, _, _, _, _⟩ :: _) _ _); refine H.mk0 rfl rE rfl ?_; (intro g w H; simp only [Act.put, List.setIfInBounds_toArray, List.set_cons_zero, List.set_cons_succ]))
    | ((with_reducible show wpList _ _ _ (⟨_, .load 94 _, _, _, _, _⟩ :: _) _ _); refine H.ld rfl rD rfl rfl (by repeat (first | with_reducible exact List.mem_cons_self | apply List.mem_cons_of_mem)) (by first | with_reducible exact ext_2 _ _) (by rfl) ?_; simp only [Act.put, List.setIfInBounds_toArray, List.set_cons_zero, List.set_cons_succ])
    | ((with_reducible show wpList _ _ _ (⟨_, .load 95 _, _, _, _, _⟩ :: _) _ _); refine H.ld rfl rE rfl rfl (by repeat (first | with_reducible exact List.mem_cons_self | apply List.mem_cons_of_mem)) (by first | with_reducible exact ext_v8 _ _ _ _ _ _ _ _ ) (by rfl) ?_; simp only [Act.put, List.setIfInBounds_toArray, List.set_cons_zero, List.set_cons_succ])
    | ((with_reducible show wpList _ _ _ (⟨_, .load 23 _, _, _, _, _⟩ :: _) _ _); refine H.ld1 rfl oK rfl rfl (by repeat (first | with_reducible exact List.mem_cons_self | apply List.mem_cons_of_mem)) (by first | with_reducible exact get_20 _ _) ?_; simp only [Act.put, List.setIfInBounds_toArray, List.set_cons_zero, List.set_cons_succ])
    | ((with_reducible show wpList _ _ _ (⟨_, .load 92 _, _, _, _, _⟩ :: _) _ _); refine H.ld1 rfl oX rfl rfl (by repeat (first | with_reducible exact List.mem_cons_self | apply List.mem_cons_of_mem)) (by first | with_reducible exact get_21 _ _) ?_; simp only [Act.put, List.setIfInBounds_toArray, List.set_cons_zero, List.set_cons_succ])
    | ((with_reducible show wpList _ _ _ (⟨_, .store 94 _ _, _, _, _, _⟩ :: _) _ _); refine H.st rfl rD rfl rfl (cells_agg _) (by repeat (first | with_reducible exact Upd.head _ | apply Upd.tail)) (set_v2 _ _ _ _) (by rfl) (by exact one_of rfl) (by first | exact ble_le rfl | (change _ + 1 ≤ 12; omega) | (change _ + 1 ≤ 6; omega)) ?_; (intro w H; simp only [Act.put]))
    | ((with_reducible show wpList _ _ _ (⟨_, .store 95 _ _, _, _, _, _⟩ :: _) _ _); refine H.st rfl rE rfl rfl (cells_agg _) (by repeat (first | with_reducible exact Upd.head _ | apply Upd.tail)) (set_v8 _ _ _ _ _ _ _ _ _ _ _ _ _ _ _ _ ) (by rfl) (by exact one_of rfl) (by first | exact ble_le rfl | (change _ + 1 ≤ 12; omega) | (change _ + 1 ≤ 6; omega)) ?_; (intro w H; simp only [Act.put]))
    | ((with_reducible show wpList _ _ _ (⟨_, .index _ _ _, _, _, _, _⟩ :: _) _ _); (first | refine wp_index rfl rfl rfl rfl ix_0 ?_ | refine wp_index rfl rfl rfl rfl ix_1 ?_ | refine wp_index rfl rfl rfl rfl ix_2 ?_ | refine wp_index rfl rfl rfl rfl ix_3 ?_); simp only [Act.put, List.setIfInBounds_toArray, List.set_cons_zero, List.set_cons_succ])
    | (go_at_call 80; ((with_reducible refine (cX _).mono ?_); rintro e w ⟨rfl, hb⟩; replace H := H.call hb; clear hb))
    | (go_at_call 82; ((with_reducible refine (cX _).mono ?_); rintro e w ⟨rfl, hb⟩; replace H := H.call hb; clear hb))
    | (go_at_call 83; ((with_reducible refine (cX _).mono ?_); rintro e w ⟨rfl, hb⟩; replace H := H.call hb; clear hb))
    | (go_at_call 84; ((with_reducible refine (cX _).mono ?_); rintro e w ⟨rfl, hb⟩; replace H := H.call hb; clear hb))
    )
  go_loopw [16] (fun i wr => (i = .int .i64 0 ∧ Own w0 wr []) ∨ (i = .int .i64 1 ∧ Own w0 wr [])) (fun i _ => 5 - (intOf i).toNat)
  case atStart => exact Or.inl ⟨rfl, H.sub (List.nil_sublist _)⟩
  case round =>
    clear H
    rcases hrel with ⟨rfl, H⟩ | ⟨rfl, H⟩
    · go_wp2_with (first
      | ((with_reducible show wpList _ _ _ (⟨_, .box _ _, _, _, _, _⟩ :: _) _ _); refine H.box rfl rfl (cells_agg _) ?_; (intro g w H; simp only [Act.put, List.setIfInBounds_toArray, List.set_cons_zero, List.set_cons_succ]))
      | ((with_reducible show wpList _ _ _ (⟨_, .alloc 94, _, _, _, _⟩ :: _) _ _); refine H.mk0 rfl rD rfl ?_; (intro g w H; simp only [Act.put, List.setIfInBounds_toArray, List.set_cons_zero, List.set_cons_succ]))
      | ((with_reducible show wpList _ _ _ (⟨_, .alloc 95, _, _, _, _⟩ :: _) _ _); refine H.mk0 rfl rE rfl ?_; (intro g w H; simp only [Act.put, List.setIfInBounds_toArray, List.set_cons_zero, List.set_cons_succ]))
      | ((with_reducible show wpList _ _ _ (⟨_, .load 94 _, _, _, _, _⟩ :: _) _ _); refine H.ld rfl rD rfl rfl (by repeat (first | with_reducible exact List.mem_cons_self | apply List.mem_cons_of_mem)) (by first | with_reducible exact ext_2 _ _) (by rfl) ?_; simp only [Act.put, List.setIfInBounds_toArray, List.set_cons_zero, List.set_cons_succ])
      | ((with_reducible show wpList _ _ _ (⟨_, .load 95 _, _, _, _, _⟩ :: _) _ _); refine H.ld rfl rE rfl rfl (by repeat (first | with_reducible exact List.mem_cons_self | apply List.mem_cons_of_mem)) (by first | with_reducible exact ext_v8 _ _ _ _ _ _ _ _ ) (by rfl) ?_; simp only [Act.put, List.setIfInBounds_toArray, List.set_cons_zero, List.set_cons_succ])
      | ((with_reducible show wpList _ _ _ (⟨_, .load 23 _, _, _, _, _⟩ :: _) _ _); refine H.ld1 rfl oK rfl rfl (by repeat (first | with_reducible exact List.mem_cons_self | apply List.mem_cons_of_mem)) (by first | with_reducible exact get_20 _ _) ?_; simp only [Act.put, List.setIfInBounds_toArray, List.set_cons_zero, List.set_cons_succ])
      | ((with_reducible show wpList _ _ _ (⟨_, .load 92 _, _, _, _, _⟩ :: _) _ _); refine H.ld1 rfl oX rfl rfl (by repeat (first | with_reducible exact List.mem_cons_self | apply List.mem_cons_of_mem)) (by first | with_reducible exact get_21 _ _) ?_; simp only [Act.put, List.setIfInBounds_toArray, List.set_cons_zero, List.set_cons_succ])
      | ((with_reducible show wpList _ _ _ (⟨_, .store 94 _ _, _, _, _, _⟩ :: _) _ _); refine H.st rfl rD rfl rfl (cells_agg _) (by repeat (first | with_reducible exact Upd.head _ | apply Upd.tail)) (set_v2 _ _ _ _) (by rfl) (by exact one_of rfl) (by first | exact ble_le rfl | (change _ + 1 ≤ 12; omega) | (change _ + 1 ≤ 6; omega)) ?_; (intro w H; simp only [Act.put]))
      | ((with_reducible show wpList _ _ _ (⟨_, .store 95 _ _, _, _, _, _⟩ :: _) _ _); refine H.st rfl rE rfl rfl (cells_agg _) (by repeat (first | with_reducible exact Upd.head _ | apply Upd.tail)) (set_v8 _ _ _ _ _ _ _ _ _ _ _ _ _ _ _ _ ) (by rfl) (by exact one_of rfl) (by first | exact ble_le rfl | (change _ + 1 ≤ 12; omega) | (change _ + 1 ≤ 6; omega)) ?_; (intro w H; simp only [Act.put]))
      | ((with_reducible show wpList _ _ _ (⟨_, .index _ _ _, _, _, _, _⟩ :: _) _ _); (first | refine wp_index rfl rfl rfl rfl ix_0 ?_ | refine wp_index rfl rfl rfl rfl ix_1 ?_ | refine wp_index rfl rfl rfl rfl ix_2 ?_ | refine wp_index rfl rfl rfl rfl ix_3 ?_); simp only [Act.put, List.setIfInBounds_toArray, List.set_cons_zero, List.set_cons_succ])
      | (go_at_call 80; ((with_reducible refine (cX _).mono ?_); rintro e w ⟨rfl, hb⟩; replace H := H.call hb; clear hb))
      | (go_at_call 82; ((with_reducible refine (cX _).mono ?_); rintro e w ⟨rfl, hb⟩; replace H := H.call hb; clear hb))
      | (go_at_call 83; ((with_reducible refine (cX _).mono ?_); rintro e w ⟨rfl, hb⟩; replace H := H.call hb; clear hb))
      | (go_at_call 84; ((with_reducible refine (cX _).mono ?_); rintro e w ⟨rfl, hb⟩; replace H := H.call hb; clear hb))
      )
      all_goals
        go_roundw
        case rel => exact (Or.inr ⟨rfl, H.sub (List.nil_sublist _)⟩)
        case measure => simp [intOf]
    · go_wp2_with (first
      | ((with_reducible show wpList _ _ _ (⟨_, .box _ _, _, _, _, _⟩ :: _) _ _); refine H.box rfl rfl (cells_agg _) ?_; (intro g w H; simp only [Act.put, List.setIfInBounds_toArray, List.set_cons_zero, List.set_cons_succ]))
      | ((with_reducible show wpList _ _ _ (⟨_, .alloc 94, _, _, _, _⟩ :: _) _ _); refine H.mk0 rfl rD rfl ?_; (intro g w H; simp only [Act.put, List.setIfInBounds_toArray, List.set_cons_zero, List.set_cons_succ]))
      | ((with_reducible show wpList _ _ _ (⟨_, .alloc 95, _, _, _, _⟩ :: _) _ _); refine H.mk0 rfl rE rfl ?_; (intro g w H; simp only [Act.put, List.setIfInBounds_toArray, List.set_cons_zero, List.set_cons_succ]))
      | ((with_reducible show wpList _ _ _ (⟨_, .load 94 _, _, _, _, _⟩ :: _) _ _); refine H.ld rfl rD rfl rfl (by repeat (first | with_reducible exact List.mem_cons_self | apply List.mem_cons_of_mem)) (by first | with_reducible exact ext_2 _ _) (by rfl) ?_; simp only [Act.put, List.setIfInBounds_toArray, List.set_cons_zero, List.set_cons_succ])
      | ((with_reducible show wpList _ _ _ (⟨_, .load 95 _, _, _, _, _⟩ :: _) _ _); refine H.ld rfl rE rfl rfl (by repeat (first | with_reducible exact List.mem_cons_self | apply List.mem_cons_of_mem)) (by first | with_reducible exact ext_v8 _ _ _ _ _ _ _ _ ) (by rfl) ?_; simp only [Act.put, List.setIfInBounds_toArray, List.set_cons_zero, List.set_cons_succ])
      | ((with_reducible show wpList _ _ _ (⟨_, .load 23 _, _, _, _, _⟩ :: _) _ _); refine H.ld1 rfl oK rfl rfl (by repeat (first | with_reducible exact List.mem_cons_self | apply List.mem_cons_of_mem)) (by first | with_reducible exact get_20 _ _) ?_; simp only [Act.put, List.setIfInBounds_toArray, List.set_cons_zero, List.set_cons_succ])
      | ((with_reducible show wpList _ _ _ (⟨_, .load 92 _, _, _, _, _⟩ :: _) _ _); refine H.ld1 rfl oX rfl rfl (by repeat (first | with_reducible exact List.mem_cons_self | apply List.mem_cons_of_mem)) (by first | with_reducible exact get_21 _ _) ?_; simp only [Act.put, List.setIfInBounds_toArray, List.set_cons_zero, List.set_cons_succ])
      | ((with_reducible show wpList _ _ _ (⟨_, .store 94 _ _, _, _, _, _⟩ :: _) _ _); refine H.st rfl rD rfl rfl (cells_agg _) (by repeat (first | with_reducible exact Upd.head _ | apply Upd.tail)) (set_v2 _ _ _ _) (by rfl) (by exact one_of rfl) (by first | exact ble_le rfl | (change _ + 1 ≤ 12; omega) | (change _ + 1 ≤ 6; omega)) ?_; (intro w H; simp only [Act.put]))
      | ((with_reducible show wpList _ _ _ (⟨_, .store 95 _ _, _, _, _, _⟩ :: _) _ _); refine H.st rfl rE rfl rfl (cells_agg _) (by repeat (first | with_reducible exact Upd.head _ | apply Upd.tail)) (set_v8 _ _ _ _ _ _ _ _ _ _ _ _ _ _ _ _ ) (by rfl) (by exact one_of rfl) (by first | exact ble_le rfl | (change _ + 1 ≤ 12; omega) | (change _ + 1 ≤ 6; omega)) ?_; (intro w H; simp only [Act.put]))
      | ((with_reducible show wpList _ _ _ (⟨_, .index _ _ _, _, _, _, _⟩ :: _) _ _); (first | refine wp_index rfl rfl rfl rfl ix_0 ?_ | refine wp_index rfl rfl rfl rfl ix_1 ?_ | refine wp_index rfl rfl rfl rfl ix_2 ?_ | refine wp_index rfl rfl rfl rfl ix_3 ?_); simp only [Act.put, List.setIfInBounds_toArray, List.set_cons_zero, List.set_cons_succ])
      | (go_at_call 80; ((with_reducible refine (cX _).mono ?_); rintro e w ⟨rfl, hb⟩; replace H := H.call hb; clear hb))
      | (go_at_call 82; ((with_reducible refine (cX _).mono ?_); rintro e w ⟨rfl, hb⟩; replace H := H.call hb; clear hb))
      | (go_at_call 83; ((with_reducible refine (cX _).mono ?_); rintro e w ⟨rfl, hb⟩; replace H := H.call hb; clear hb))
      | (go_at_call 84; ((with_reducible refine (cX _).mono ?_); rintro e w ⟨rfl, hb⟩; replace H := H.call hb; clear hb))
      )
      all_goals
        go_ret3
        exact ⟨by rfl, H.below⟩
set_option maxHeartbeats 3200000 in
set_option maxRecDepth 100000 in
theorem fiNumber_k2 (x : Nat) (w0 : World) (ng : Bool) (n : Int) (cX : ∀ w, Calls Tryd.prog 83 #[.int .u64 x] w fun e w' => e = .returned (.tuple #[.bool ng, .int .u64 n]) ∧ Below w.heap.size w w') :
    Calls Tryd.prog 31 #[.int .u8 2, .int .u64 x] w0 fun e w' => e = .returned (.tuple #[.bool ng, .int .u64 n, .int .i64 0]) ∧ Below w0.heap.size w0 w' := by
  have H := Own.start w0
  go_enter Tryd.func31, Tryd.ntmps31
  go_wp2_with (first
    | ((with_reducible show wpList _ _ _ (⟨_, .box _ _, _, _, _, _⟩ :: _) _ _); refine H.box rfl rfl (cells_agg _) ?_; (intro g w H; simp only [Act.put, List.setIfInBounds_toArray, List.set_cons_zero, List.set_cons_succ]))
    | ((with_reducible show wpList _ _ _ (⟨_, .alloc 94, _, _, _, _⟩ :: _) _ _); refine H.mk0 rfl rD rfl ?_; (intro g w H; simp only [Act.put, List.setIfInBounds_toArray, List.set_cons_zero, List.set_cons_succ]))
    | ((with_reducible show wpList _ _ _ (⟨_, .alloc 95, _, _, _, _⟩ :: _) _ _); refine H.mk0 rfl rE rfl ?_; (intro g w H; simp only [Act.put, List.setIfInBounds_toArray, List.set_cons_zero, List.set_cons_succ]))
    | ((with_reducible show wpList _ _ _ (⟨_, .load 94 _, _, _, _, _⟩ :: _) _ _); refine H.ld rfl rD rfl rfl (by repeat (first | with_reducible exact List.mem_cons_self | apply List.mem_cons_of_mem)) (by first | with_reducible exact ext_2 _ _) (by rfl) ?_; simp only [Act.put, List.setIfInBounds_toArray, List.set_cons_zero, List.set_cons_succ])
    | ((with_reducible show wpList _ _ _ (⟨_, .load 95 _, _, _, _, _⟩ :: _) _ _); refine H.ld rfl rE rfl rfl (by repeat (first | with_reducible exact List.mem_cons_self | apply List.mem_cons_of_mem)) (by first | with_reducible exact ext_v8 _ _ _ _ _ _ _ _ ) (by rfl) ?_; simp only [Act.put, List.setIfInBounds_toArray, List.set_cons_zero, List.set_cons_succ])
    | ((with_reducible show wpList _ _ _ (⟨_, .load 23 _, _, _, _, _⟩ :: _) _ _); refine H.ld1 rfl oK rfl rfl (by repeat (first | with_reducible exact List.mem_cons_self | apply List.mem_cons_of_mem)) (by first | with_reducible exact get_20 _ _) ?_; simp only [Act.put, List.setIfInBounds_toArray, List.set_cons_zero, List.set_cons_succ])
    | ((with_reducible show wpList _ _ _ (⟨_, .load 92 _, _, _, _, _⟩ :: _) _ _); refine H.ld1 rfl oX rfl rfl (by repeat (first | with_reducible exact List.mem_cons_self | apply List.mem_cons_of_mem)) (by first | with_reducible exact get_21 _ _) ?_; simp only [Act.put, List.setIfInBounds_toArray, List.set_cons_zero, List.set_cons_succ])
    | ((with_reducible show wpList _ _ _ (⟨_, .store 94 _ _, _, _, _, _⟩ :: _) _ _); refine H.st rfl rD rfl rfl (cells_agg _) (by repeat (first | with_reducible exact Upd.head _ | apply Upd.tail)) (set_v2 _ _ _ _) (by rfl) (by exact one_of rfl) (by first | exact ble_le rfl | (change _ + 1 ≤ 12; omega) | (change _ + 1 ≤ 6; omega)) ?_; (intro w H; simp only [Act.put]))
    | ((with_reducible show wpList _ _ _ (⟨_, .store 95 _ _, _, _, _, _⟩ :: _) _ _); refine H.st rfl rE rfl rfl (cells_agg _) (by repeat (first | with_reducible exact Upd.head _ | apply Upd.tail)) (set_v8 _ _ _ _ _ _ _ _ _ _ _ _ _ _ _ _ ) (by rfl) (by exact one_of rfl) (by first | exact ble_le rfl | (change _ + 1 ≤ 12; omega) | (change _ + 1 ≤ 6; omega)) ?_; (intro w H; simp only [Act.put]))
    | ((with_reducible show wpList _ _ _ (⟨_, .index _ _ _, _, _, _, _⟩ :: _) _ _); (first | refine wp_index rfl rfl rfl rfl ix_0 ?_ | refine wp_index rfl rfl rfl rfl ix_1 ?_ | refine wp_index rfl rfl rfl rfl ix_2 ?_ | refine wp_index rfl rfl rfl rfl ix_3 ?_); simp only [Act.put, List.setIfInBounds_toArray, List.set_cons_zero, List.set_cons_succ])
    | (go_at_call 80; ((with_reducible refine (cX _).mono ?_); rintro e w ⟨rfl, hb⟩; replace H := H.call hb; clear hb))
    | (go_at_call 82; ((with_reducible refine (cX _).mono ?_); rintro e w ⟨rfl, hb⟩; replace H := H.call hb; clear hb))
    | (go_at_call 83; ((with_reducible refine (cX _).mono ?_); rintro e w ⟨rfl, hb⟩; replace H := H.call hb; clear hb))
    | (go_at_call 84; ((with_reducible refine (cX _).mono ?_); rintro e w ⟨rfl, hb⟩; replace H := H.call hb; clear hb))
    )
  go_loopw [16] (fun i wr => (i = .int .i64 0 ∧ Own w0 wr []) ∨ (i = .int .i64 1 ∧ Own w0 wr []) ∨ (i = .int .i64 2 ∧ Own w0 wr [])) (fun i _ => 5 - (intOf i).toNat)
  case atStart => exact Or.inl ⟨rfl, H.sub (List.nil_sublist _)⟩
  case round =>
    clear H
    rcases hrel with ⟨rfl, H⟩ | ⟨rfl, H⟩ | ⟨rfl, H⟩
    · go_wp2_with (first
      | ((with_reducible show wpList _ _ _ (⟨_, .box _ _, _, _, _, _⟩ :: _) _ _); refine H.box rfl rfl (cells_agg _) ?_; (intro g w H; simp only [Act.put, List.setIfInBounds_toArray, List.set_cons_zero, List.set_cons_succ]))
      | ((with_reducible show wpList _ _ _ (⟨_, .alloc 94, _, _, _, _⟩ :: _) _ _); refine H.mk0 rfl rD rfl ?_; (intro g w H; simp only [Act.put, List.setIfInBounds_toArray, List.set_cons_zero, List.set_cons_succ]))
      | ((with_reducible show wpList _ _ _ (⟨_, .alloc 95, _, _, _, _⟩ :: _) _ _); refine H.mk0 rfl rE rfl ?_; (intro g w H; simp only [Act.put, List.setIfInBounds_toArray, List.set_cons_zero, List.set_cons_succ]))
      | ((with_reducible show wpList _ _ _ (⟨_, .load 94 _, _, _, _, _⟩ :: _) _ _); refine H.ld rfl rD rfl rfl (by repeat (first | with_reducible exact List.mem_cons_self | apply List.mem_cons_of_mem)) (by first | with_reducible exact ext_2 _ _) (by rfl) ?_; simp only [Act.put, List.setIfInBounds_toArray, List.set_cons_zero, List.set_cons_succ])
      | ((with_reducible show wpList _ _ _ (⟨_, .load 95 _, _, _, _, _⟩ :: _) _ _); refine H.ld rfl rE rfl rfl (by repeat (first | with_reducible exact List.mem_cons_self | apply List.mem_cons_of_mem)) (by first | with_reducible exact ext_v8 _ _ _ _ _ _ _ _ ) (by rfl) ?_; simp only [Act.put, List.setIfInBounds_toArray, List.set_cons_zero, List.set_cons_succ])
      | ((with_reducible show wpList _ _ _ (⟨_, .load 23 _, _, _, _, _⟩ :: _) _ _); refine H.ld1 rfl oK rfl rfl (by repeat (first | with_reducible exact List.mem_cons_self | apply List.mem_cons_of_mem)) (by first | with_reducible exact get_20 _ _) ?_; simp only [Act.put, List.setIfInBounds_toArray, List.set_cons_zero, List.set_cons_succ])
      | ((with_reducible show wpList _ _ _ (⟨_, .load 92 _, _, _, _, _⟩ :: _) _ _); refine H.ld1 rfl oX rfl rfl (by repeat (first | with_reducible exact List.mem_cons_self | apply List.mem_cons_of_mem)) (by first | with_reducible exact get_21 _ _) ?_; simp only [Act.put, List.setIfInBounds_toArray, List.set_cons_zero, List.set_cons_succ])
      | ((with_reducible show wpList _ _ _ (⟨_, .store 94 _ _, _, _, _, _⟩ :: _) _ _); refine H.st rfl rD rfl rfl (cells_agg _) (by repeat (first | with_reducible exact Upd.head _ | apply Upd.tail)) (set_v2 _ _ _ _) (by rfl) (by exact one_of rfl) (by first | exact ble_le rfl | (change _ + 1 ≤ 12; omega) | (change _ + 1 ≤ 6; omega)) ?_; (intro w H; simp only [Act.put]))
      | ((with_reducible show wpList _ _ _ (⟨_, .store 95 _ _, _, _, _, _⟩ :: _) _ _); refine H.st rfl rE rfl rfl (cells_agg _) (by repeat (first | with_reducible exact Upd.head _ | apply Upd.tail)) (set_v8 _ _ _ _ _ _ _ _ _ _ _ _ _ _ _ _ ) (by rfl) (by exact one_of rfl) (by first | exact ble_le rfl | (change _ + 1 ≤ 12; omega) | (change _ + 1 ≤ 6; omega)) ?_; (intro w H; simp only [Act.put]))
      | ((with_reducible show wpList _ _ _ (⟨_, .index _ _ _, _, _, _, _⟩ :: _) _ _); (first | refine wp_index rfl rfl rfl rfl ix_0 ?_ | refine wp_index rfl rfl rfl rfl ix_1 ?_ | refine wp_index rfl rfl rfl rfl ix_2 ?_ | refine wp_index rfl rfl rfl rfl ix_3 ?_); simp only [Act.put, List.setIfInBounds_toArray, List.set_cons_zero, List.set_cons_succ])
      | (go_at_call 80; ((with_reducible refine (cX _).mono ?_); rintro e w ⟨rfl, hb⟩; replace H := H.call hb; clear hb))
      | (go_at_call 82; ((with_reducible refine (cX _).mono ?_); rintro e w ⟨rfl, hb⟩; replace H := H.call hb; clear hb))
      | (go_at_call 83; ((with_reducible refine (cX _).mono ?_); rintro e w ⟨rfl, hb⟩; replace H := H.call hb; clear hb))
      | (go_at_call 84; ((with_reducible refine (cX _).mono ?_); rintro e w ⟨rfl, hb⟩; replace H := H.call hb; clear hb))
      )
      all_goals
        go_roundw
        case rel => exact (Or.inr (Or.inl ⟨rfl, H.sub (List.nil_sublist _)⟩))
        case measure => simp [intOf]
    · go_wp2_with (first
      | ((with_reducible show wpList _ _ _ (⟨_, .box _ _, _, _, _, _⟩ :: _) _ _); refine H.box rfl rfl (cells_agg _) ?_; (intro g w H; simp only [Act.put, List.setIfInBounds_toArray, List.set_cons_zero, List.set_cons_succ]))
      | ((with_reducible show wpList _ _ _ (⟨_, .alloc 94, _, _, _, _⟩ :: _) _ _); refine H.mk0 rfl rD rfl ?_; (intro g w H; simp only [Act.put, List.setIfInBounds_toArray, List.set_cons_zero, List.set_cons_succ]))
      | ((with_reducible show wpList _ _ _ (⟨_, .alloc 95, _, _, _, _⟩ :: _) _ _); refine H.mk0 rfl rE rfl ?_; (intro g w H; simp only [Act.put, List.setIfInBounds_toArray, List.set_cons_zero, List.set_cons_succ]))
      | ((with_reducible show wpList _ _ _ (⟨_, .load 94 _, _, _, _, _⟩ :: _) _ _); refine H.ld rfl rD rfl rfl (by repeat (first | with_reducible exact List.mem_cons_self | apply List.mem_cons_of_mem)) (by first | with_reducible exact ext_2 _ _) (by rfl) ?_; simp only [Act.put, List.setIfInBounds_toArray, List.set_cons_zero, List.set_cons_succ])
      | ((with_reducible show wpList _ _ _ (⟨_, .load 95 _, _, _, _, _⟩ :: _) _ _); refine H.ld rfl rE rfl rfl (by repeat (first | with_reducible exact List.mem_cons_self | apply List.mem_cons_of_mem)) (by first | with_reducible exact ext_v8 _ _ _ _ _ _ _ _ ) (by rfl) ?_; simp only [Act.put, List.setIfInBounds_toArray, List.set_cons_zero, List.set_cons_succ])
      | ((with_reducible show wpList _ _ _ (⟨_, .load 23 _, _, _, _, _⟩ :: _) _ _); refine H.ld1 rfl oK rfl rfl (by repeat (first | with_reducible exact List.mem_cons_self | apply List.mem_cons_of_mem)) (by first | with_reducible exact get_20 _ _) ?_; simp only [Act.put, List.setIfInBounds_toArray, List.set_cons_zero, List.set_cons_succ])
      | ((with_reducible show wpList _ _ _ (⟨_, .load 92 _, _, _, _, _⟩ :: _) _ _); refine H.ld1 rfl oX rfl rfl (by repeat (first | with_reducible exact List.mem_cons_self | apply List.mem_cons_of_mem)) (by first | with_reducible exact get_21 _ _) ?_; simp only [Act.put, List.setIfInBounds_toArray, List.set_cons_zero, List.set_cons_succ])
      | ((with_reducible show wpList _ _ _ (⟨_, .store 94 _ _, _, _, _, _⟩ :: _) _ _); refine H.st rfl rD rfl rfl (cells_agg _) (by repeat (first | with_reducible exact Upd.head _ | apply Upd.tail)) (set_v2 _ _ _ _) (by rfl) (by exact one_of rfl) (by first | exact ble_le rfl | (change _ + 1 ≤ 12; omega) | (change _ + 1 ≤ 6; omega)) ?_; (intro w H; simp only [Act.put]))
      | ((with_reducible show wpList _ _ _ (⟨_, .store 95 _ _, _, _, _, _⟩ :: _) _ _); refine H.st rfl rE rfl rfl (cells_agg _) (by repeat (first | with_reducible exact Upd.head _ | apply Upd.tail)) (set_v8 _ _ _ _ _ _ _ _ _ _ _ _ _ _ _ _ ) (by rfl) (by exact one_of rfl) (by first | exact ble_le rfl | (change _ + 1 ≤ 12; omega) | (change _ + 1 ≤ 6; omega)) ?_; (intro w H; simp only [Act.put]))
      | ((with_reducible show wpList _ _ _ (⟨_, .index _ _ _, _, _, _, _⟩ :: _) _ _); (first | refine wp_index rfl rfl rfl rfl ix_0 ?_ | refine wp_index rfl rfl rfl rfl ix_1 ?_ | refine wp_index rfl rfl rfl rfl ix_2 ?_ | refine wp_index rfl rfl rfl rfl ix_3 ?_); simp only [Act.put, List.setIfInBounds_toArray, List.set_cons_zero, List.set_cons_succ])
      | (go_at_call 80; ((with_reducible refine (cX _).mono ?_); rintro e w ⟨rfl, hb⟩; replace H := H.call hb; clear hb))
      | (go_at_call 82; ((with_reducible refine (cX _).mono ?_); rintro e w ⟨rfl, hb⟩; replace H := H.call hb; clear hb))
      | (go_at_call 83; ((with_reducible refine (cX _).mono ?_); rintro e w ⟨rfl, hb⟩; replace H := H.call hb; clear hb))
      | (go_at_call 84; ((with_reducible refine (cX _).mono ?_); rintro e w ⟨rfl, hb⟩; replace H := H.call hb; clear hb))
      )
      all_goals
        go_roundw
        case rel => exact (Or.inr (Or.inr ⟨rfl, H.sub (List.nil_sublist _)⟩))
        case measure => simp [intOf]
    · go_wp2_with (first
      | ((with_reducible show wpList _ _ _ (⟨_, .box _ _, _, _, _, _⟩ :: _) _ _); refine H.box rfl rfl (cells_agg _) ?_; (intro g w H; simp only [Act.put, List.setIfInBounds_toArray, List.set_cons_zero, List.set_cons_succ]))
      | ((with_reducible show wpList _ _ _ (⟨_, .alloc 94, _, _, _, _⟩ :: _) _ _); refine H.mk0 rfl rD rfl ?_; (intro g w H; simp only [Act.put, List.setIfInBounds_toArray, List.set_cons_zero, List.set_cons_succ]))
      | ((with_reducible show wpList _ _ _ (⟨_, .alloc 95, _, _, _, _⟩ :: _) _ _); refine H.mk0 rfl rE rfl ?_; (intro g w H; simp only [Act.put, List.setIfInBounds_toArray, List.set_cons_zero, List.set_cons_succ]))
      | ((with_reducible show wpList _ _ _ (⟨_, .load 94 _, _, _, _, _⟩ :: _) _ _); refine H.ld rfl rD rfl rfl (by repeat (first | with_reducible exact List.mem_cons_self | apply List.mem_cons_of_mem)) (by first | with_reducible exact ext_2 _ _) (by rfl) ?_; simp only [Act.put, List.setIfInBounds_toArray, List.set_cons_zero, List.set_cons_succ])
      | ((with_reducible show wpList _ _ _ (⟨_, .load 95 _, _, _, _, _⟩ :: _) _ _); refine H.ld rfl rE rfl rfl (by repeat (first | with_reducible exact List.mem_cons_self | apply List.mem_cons_of_mem)) (by first | with_reducible exact ext_v8 _ _ _ _ _ _ _ _ ) (by rfl) ?_; simp only [Act.put, List.setIfInBounds_toArray, List.set_cons_zero, List.set_cons_succ])
      | ((with_reducible show wpList _ _ _ (⟨_, .load 23 _, _, _, _, _⟩ :: _) _ _); refine H.ld1 rfl oK rfl rfl (by repeat (first | with_reducible exact List.mem_cons_self | apply List.mem_cons_of_mem)) (by first | with_reducible exact get_20 _ _) ?_; simp only [Act.put, List.setIfInBounds_toArray, List.set_cons_zero, List.set_cons_succ])
      | ((with_reducible show wpList _ _ _ (⟨_, .load 92 _, _, _, _, _⟩ :: _) _ _); refine H.ld1 rfl oX rfl rfl (by repeat (first | with_reducible exact List.mem_cons_self | apply List.mem_cons_of_mem)) (by first | with_reducible exact get_21 _ _) ?_; simp only [Act.put, List.setIfInBounds_toArray, List.set_cons_zero, List.set_cons_succ])
      | ((with_reducible show wpList _ _ _ (⟨_, .store 94 _ _, _, _, _, _⟩ :: _) _ _); refine H.st rfl rD rfl rfl (cells_agg _) (by repeat (first | with_reducible exact Upd.head _ | apply Upd.tail)) (set_v2 _ _ _ _) (by rfl) (by exact one_of rfl) (by first | exact ble_le rfl | (change _ + 1 ≤ 12; omega) | (change _ + 1 ≤ 6; omega)) ?_; (intro w H; simp only [Act.put]))
      | ((with_reducible show wpList _ _ _ (⟨_, .store 95 _ _, _, _, _, _⟩ :: _) _ _); refine H.st rfl rE rfl rfl (cells_agg _) (by repeat (first | with_reducible exact Upd.head _ | apply Upd.tail)) (set_v8 _ _ _ _ _ _ _ _ _ _ _ _ _ _ _ _ ) (by rfl) (by exact one_of rfl) (by first | exact ble_le rfl | (change _ + 1 ≤ 12; omega) | (change _ + 1 ≤ 6; omega)) ?_; (intro w H; simp only [Act.put]))
      | ((with_reducible show wpList _ _ _ (⟨_, .index _ _ _, _, _, _, _⟩ :: _) _ _); (first | refine wp_index rfl rfl rfl rfl ix_0 ?_ | refine wp_index rfl rfl rfl rfl ix_1 ?_ | refine wp_index rfl rfl rfl rfl ix_2 ?_ | refine wp_index rfl rfl rfl rfl ix_3 ?_); simp only [Act.put, List.setIfInBounds_toArray, List.set_cons_zero, List.set_cons_succ])
      | (go_at_call 80; ((with_reducible refine (cX _).mono ?_); rintro e w ⟨rfl, hb⟩; replace H := H.call hb; clear hb))
      | (go_at_call 82; ((with_reducible refine (cX _).mono ?_); rintro e w ⟨rfl, hb⟩; replace H := H.call hb; clear hb))
      | (go_at_call 83; ((with_reducible refine (cX _).mono ?_); rintro e w ⟨rfl, hb⟩; replace H := H.call hb; clear hb))
      | (go_at_call 84; ((with_reducible refine (cX _).mono ?_); rintro e w ⟨rfl, hb⟩; replace H := H.call hb; clear hb))
      )
      all_goals
        go_ret3
        exact ⟨by rfl, H.below⟩
set_option maxHeartbeats 3200000 in
set_option maxRecDepth 100000 in
theorem fiNumber_k3 (x : Nat) (w0 : World) (ng : Bool) (n : Int) (cX : ∀ w, Calls Tryd.prog 84 #[.int .u64 x] w fun e w' => e = .returned (.tuple #[.bool ng, .int .u64 n]) ∧ Below w.heap.size w w') :
    Calls Tryd.prog 31 #[.int .u8 3, .int .u64 x] w0 fun e w' => e = .returned (.tuple #[.bool ng, .int .u64 n, .int .i64 0]) ∧ Below w0.heap.size w0 w' := by
  have H := Own.start w0
  go_enter Tryd.func31, Tryd.ntmps31
  go_wp2_with (first
    | ((with_reducible show wpList _ _ _ (⟨_, .box _ _, _, _, _, _⟩ :: _) _ _); refine H.box rfl rfl (cells_agg _) ?_; (intro g w H; simp only [Act.put, List.setIfInBounds_toArray, List.set_cons_zero, List.set_cons_succ]))
    | ((with_reducible show wpList _ _ _ (⟨_, .alloc 94, _, _, _, _⟩ :: _) _ _); refine H.mk0 rfl rD rfl ?_; (intro g w H; simp only [Act.put, List.setIfInBounds_toArray, List.set_cons_zero, List.set_cons_succ]))
    | ((with_reducible show wpList _ _ _ (⟨_, .alloc 95, _, _, _, _⟩ :: _) _ _); refine H.mk0 rfl rE rfl ?_; (intro g w H; simp only [Act.put, List.setIfInBounds_toArray, List.set_cons_zero, List.set_cons_succ]))
    | ((with_reducible show wpList _ _ _ (⟨_, .load 94 _, _, _, _, _⟩ :: _) _ _); refine H.ld rfl rD rfl rfl (by repeat (first | with_reducible exact List.mem_cons_self | apply List.mem_cons_of_mem)) (by first | with_reducible exact ext_2 _ _) (by rfl) ?_; simp only [Act.put, List.setIfInBounds_toArray, List.set_cons_zero, List.set_cons_succ])
    | ((with_reducible show wpList _ _ _ (⟨_, .load 95 _, _, _, _, _⟩ :: _) _ _); refine H.ld rfl rE rfl rfl (by repeat (first | with_reducible exact List.mem_cons_self | apply List.mem_cons_of_mem)) (by first | with_reducible exact ext_v8 _ _ _ _ _ _ _ _ ) (by rfl) ?_; simp only [Act.put, List.setIfInBounds_toArray, List.set_cons_zero, List.set_cons_succ])
    | ((with_reducible show wpList _ _ _ (⟨_, .load 23 _, _, _, _, _⟩ :: _) _ _); refine H.ld1 rfl oK rfl rfl (by repeat (first | with_reducible exact List.mem_cons_self | apply List.mem_cons_of_mem)) (by first | with_reducible exact get_20 _ _) ?_; simp only [Act.put, List.setIfInBounds_toArray, List.set_cons_zero, List.set_cons_succ])
    | ((with_reducible show wpList _ _ _ (⟨_, .load 92 _, _, _, _, _⟩ :: _) _ _); refine H.ld1 rfl oX rfl rfl (by repeat (first | with_reducible exact List.mem_cons_self | apply List.mem_cons_of_mem)) (by first | with_reducible exact get_21 _ _) ?_; simp only [Act.put, List.setIfInBounds_toArray, List.set_cons_zero, List.set_cons_succ])
    | ((with_reducible show wpList _ _ _ (⟨_, .store 94 _ _, _, _, _, _⟩ :: _) _ _); refine H.st rfl rD rfl rfl (cells_agg _) (by repeat (first | with_reducible exact Upd.head _ | apply Upd.tail)) (set_v2 _ _ _ _) (by rfl) (by exact one_of rfl) (by first | exact ble_le rfl | (change _ + 1 ≤ 12; omega) | (change _ + 1 ≤ 6; omega)) ?_; (intro w H; simp only [Act.put]))
    | ((with_reducible show wpList _ _ _ (⟨_, .store 95 _ _, _, _, _, _⟩ :: _) _ _); refine H.st rfl rE rfl rfl (cells_agg _) (by repeat (first | with_reducible exact Upd.head _ | apply Upd.tail)) (set_v8 _ _ _ _ _ _ _ _ _ _ _ _ _ _ _ _ ) (by rfl) (by exact one_of rfl) (by first | exact ble_le rfl | (change _ + 1 ≤ 12; omega) | (change _ + 1 ≤ 6; omega)) ?_; (intro w H; simp only [Act.put]))
    | ((with_reducible show wpList _ _ _ (⟨_, .index _ _ _, _, _, _, _⟩ :: _) _ _); (first | refine wp_index rfl rfl rfl rfl ix_0 ?_ | refine wp_index rfl rfl rfl rfl ix_1 ?_ | refine wp_index rfl rfl rfl rfl ix_2 ?_ | refine wp_index rfl rfl rfl rfl ix_3 ?_); simp only [Act.put, List.setIfInBounds_toArray, List.set_cons_zero, List.set_cons_succ])
    | (go_at_call 80; ((with_reducible refine (cX _).mono ?_); rintro e w ⟨rfl, hb⟩; replace H := H.call hb; clear hb))
    | (go_at_call 82; ((with_reducible refine (cX _).mono ?_); rintro e w ⟨rfl, hb⟩; replace H := H.call hb; clear hb))
    | (go_at_call 83; ((with_reducible refine (cX _).mono ?_); rintro e w ⟨rfl, hb⟩; replace H := H.call hb; clear hb))
    | (go_at_call 84; ((with_reducible refine (cX _).mono ?_); rintro e w ⟨rfl, hb⟩; replace H := H.call hb; clear hb))
    )
  go_loopw [16] (fun i wr => (i = .int .i64 0 ∧ Own w0 wr []) ∨ (i = .int .i64 1 ∧ Own w0 wr []) ∨ (i = .int .i64 2 ∧ Own w0 wr []) ∨ (i = .int .i64 3 ∧ Own w0 wr [])) (fun i _ => 5 - (intOf i).toNat)
  case atStart => exact Or.inl ⟨rfl, H.sub (List.nil_sublist _)⟩
  case round =>
    clear H
    rcases hrel with ⟨rfl, H⟩ | ⟨rfl, H⟩ | ⟨rfl, H⟩ | ⟨rfl, H⟩
    · go_wp2_with (first
      | ((with_reducible show wpList _ _ _ (⟨_, .box _ _, _, _, _, _⟩ :: _) _ _); refine H.box rfl rfl (cells_agg _) ?_; (intro g w H; simp only [Act.put, List.setIfInBounds_toArray, List.set_cons_zero, List.set_cons_succ]))
      | ((with_reducible show wpList _ _ _ (⟨_, .alloc 94, _, _, _, _⟩ :: _) _ _); refine H.mk0 rfl rD rfl ?_; (intro g w H; simp only [Act.put, List.setIfInBounds_toArray, List.set_cons_zero, List.set_cons_succ]))
      | ((with_reducible show wpList _ _ _ (⟨_, .alloc 95, _, _, _, _⟩ :: _) _ _); refine H.mk0 rfl rE rfl ?_; (intro g w H; simp only [Act.put, List.setIfInBounds_toArray, List.set_cons_zero, List.set_cons_succ]))
      | ((with_reducible show wpList _ _ _ (⟨_, .load 94 _, _, _, _, _⟩ :: _) _ _); refine H.ld rfl rD rfl rfl (by repeat (first | with_reducible exact List.mem_cons_self | apply List.mem_cons_of_mem)) (by first | with_reducible exact ext_2 _ _) (by rfl) ?_; simp only [Act.put, List.setIfInBounds_toArray, List.set_cons_zero, List.set_cons_succ])
      | ((with_reducible show wpList _ _ _ (⟨_, .load 95 _, _, _, _, _⟩ :: _) _ _); refine H.ld rfl rE rfl rfl (by repeat (first | with_reducible exact List.mem_cons_self | apply List.mem_cons_of_mem)) (by first | with_reducible exact ext_v8 _ _ _ _ _ _ _ _ ) (by rfl) ?_; simp only [Act.put, List.setIfInBounds_toArray, List.set_cons_zero, List.set_cons_succ])
      | ((with_reducible show wpList _ _ _ (⟨_, .load 23 _, _, _, _, _⟩ :: _) _ _); refine H.ld1 rfl oK rfl rfl (by repeat (first | with_reducible exact List.mem_cons_self | apply List.mem_cons_of_mem)) (by first | with_reducible exact get_20 _ _) ?_; simp only [Act.put, List.setIfInBounds_toArray, List.set_cons_zero, List.set_cons_succ])
      | ((with_reducible show wpList _ _ _ (⟨_, .load 92 _, _, _, _, _⟩ :: _) _ _); refine H.ld1 rfl oX rfl rfl (by repeat (first | with_reducible exact List.mem_cons_self | apply List.mem_cons_of_mem)) (by first | with_reducible exact get_21 _ _) ?_; simp only [Act.put, List.setIfInBounds_toArray, List.set_cons_zero, List.set_cons_succ])
      | ((with_reducible show wpList _ _ _ (⟨_, .store 94 _ _, _, _, _, _⟩ :: _) _ _); refine H.st rfl rD rfl rfl (cells_agg _) (by repeat (first | with_reducible exact Upd.head _ | apply Upd.tail)) (set_v2 _ _ _ _) (by rfl) (by exact one_of rfl) (by first | exact ble_le rfl | (change _ + 1 ≤ 12; omega) | (change _ + 1 ≤ 6; omega)) ?_; (intro w H; simp only [Act.put]))
      | ((with_reducible show wpList _ _ _ (⟨_, .store 95 _ _, _, _, _, _⟩ :: _) _ _); refine H.st rfl rE rfl rfl (cells_agg _) (by repeat (first | with_reducible exact Upd.head _ | apply Upd.tail)) (set_v8 _ _ _ _ _ _ _ _ _ _ _ _ _ _ _ _ ) (by rfl) (by exact one_of rfl) (by first | exact ble_le rfl | (change _ + 1 ≤ 12; omega) | (change _ + 1 ≤ 6; omega)) ?_; (intro w H; simp only [Act.put]))
      | ((with_reducible show wpList _ _ _ (⟨_, .index _ _ _, _, _, _, _⟩ :: _) _ _); (first | refine wp_index rfl rfl rfl rfl ix_0 ?_ | refine wp_index rfl rfl rfl rfl ix_1 ?_ | refine wp_index rfl rfl rfl rfl ix_2 ?_ | refine wp_index rfl rfl rfl rfl ix_3 ?_); simp only [Act.put, List.setIfInBounds_toArray, List.set_cons_zero, List.set_cons_succ])
      | (go_at_call 80; ((with_reducible refine (cX _).mono ?_); rintro e w ⟨rfl, hb⟩; replace H := H.call hb; clear hb))
      | (go_at_call 82; ((with_reducible refine (cX _).mono ?_); rintro e w ⟨rfl, hb⟩; replace H := H.call hb; clear hb))
      | (go_at_call 83; ((with_reducible refine (cX _).mono ?_); rintro e w ⟨rfl, hb⟩; replace H := H.call hb; clear hb))
      | (go_at_call 84; ((with_reducible refine (cX _).mono ?_); rintro e w ⟨rfl, hb⟩; replace H := H.call hb; clear hb))
      )
      all_goals
        go_roundw
        case rel => exact (Or.inr (Or.inl ⟨rfl, H.sub (List.nil_sublist _)⟩))
        case measure => simp [intOf]
    · go_wp2_with (first
      | ((with_reducible show wpList _ _ _ (⟨_, .box _ _, _, _, _, _⟩ :: _) _ _); refine H.box rfl rfl (cells_agg _) ?_; (intro g w H; simp only [Act.put, List.setIfInBounds_toArray, List.set_cons_zero, List.set_cons_succ]))
      | ((with_reducible show wpList _ _ _ (⟨_, .alloc 94, _, _, _, _⟩ :: _) _ _); refine H.mk0 rfl rD rfl ?_; (intro g w H; simp only [Act.put, List.setIfInBounds_toArray, List.set_cons_zero, List.set_cons_succ]))
      | ((with_reducible show wpList _ _ _ (⟨_, .alloc 95, _, _, _, _⟩ :: _) _ _); refine H.mk0 rfl rE rfl ?_; (intro g w H; simp only [Act.put, List.setIfInBounds_toArray, List.set_cons_zero, List.set_cons_succ]))
      | ((with_reducible show wpList _ _ _ (⟨_, .load 94 _, _, _, _, _⟩ :: _) _ _); refine H.ld rfl rD rfl rfl (by repeat (first | with_reducible exact List.mem_cons_self | apply List.mem_cons_of_mem)) (by first | with_reducible exact ext_2 _ _) (by rfl) ?_; simp only [Act.put, List.setIfInBounds_toArray, List.set_cons_zero, List.set_cons_succ])
      | ((with_reducible show wpList _ _ _ (⟨_, .load 95 _, _, _, _, _⟩ :: _) _ _); refine H.ld rfl rE rfl rfl (by repeat (first | with_reducible exact List.mem_cons_self | apply List.mem_cons_of_mem)) (by first | with_reducible exact ext_v8 _ _ _ _ _ _ _ _ ) (by rfl) ?_; simp only [Act.put, List.setIfInBounds_toArray, List.set_cons_zero, List.set_cons_succ])
      | ((with_reducible show wpList _ _ _ (⟨_, .load 23 _, _, _, _, _⟩ :: _) _ _); refine H.ld1 rfl oK rfl rfl (by repeat (first | with_reducible exact List.mem_cons_self | apply List.mem_cons_of_mem)) (by first | with_reducible exact get_20 _ _) ?_; simp only [Act.put, List.setIfInBounds_toArray, List.set_cons_zero, List.set_cons_succ])
      | ((with_reducible show wpList _ _ _ (⟨_, .load 92 _, _, _, _, _⟩ :: _) _ _); refine H.ld1 rfl oX rfl rfl (by repeat (first | with_reducible exact List.mem_cons_self | apply List.mem_cons_of_mem)) (by first | with_reducible exact get_21 _ _) ?_; simp only [Act.put, List.setIfInBounds_toArray, List.set_cons_zero, List.set_cons_succ])
      | ((with_reducible show wpList _ _ _ (⟨_, .store 94 _ _, _, _, _, _⟩ :: _) _ _); refine H.st rfl rD rfl rfl (cells_agg _) (by repeat (first | with_reducible exact Upd.head _ | apply Upd.tail)) (set_v2 _ _ _ _) (by rfl) (by exact one_of rfl) (by first | exact ble_le rfl | (change _ + 1 ≤ 12; omega) | (change _ + 1 ≤ 6; omega)) ?_; (intro w H; simp only [Act.put]))
      | ((with_reducible show wpList _ _ _ (⟨_, .store 95 _ _, _, _, _, _⟩ :: _) _ _); refine H.st rfl rE rfl rfl (cells_agg _) (by repeat (first | with_reducible exact Upd.head _ | apply Upd.tail)) (set_v8 _ _ _ _ _ _ _ _ _ _ _ _ _ _ _ _ ) (by rfl) (by exact one_of rfl) (by first | exact ble_le rfl | (change _ + 1 ≤ 12; omega) | (change _ + 1 ≤ 6; omega)) ?_; (intro w H; simp only [Act.put]))
      | ((with_reducible show wpList _ _ _ (⟨_, .index _ _ _, _, _, _, _⟩ :: _) _ _); (first | refine wp_index rfl rfl rfl rfl ix_0 ?_ | refine wp_index rfl rfl rfl rfl ix_1 ?_ | refine wp_index rfl rfl rfl rfl ix_2 ?_ | refine wp_index rfl rfl rfl rfl ix_3 ?_); simp only [Act.put, List.setIfInBounds_toArray, List.set_cons_zero, List.set_cons_succ])
      | (go_at_call 80; ((with_reducible refine (cX _).mono ?_); rintro e w ⟨rfl, hb⟩; replace H := H.call hb; clear hb))
      | (go_at_call 82; ((with_reducible refine (cX _).mono ?_); rintro e w ⟨rfl, hb⟩; replace H := H.call hb; clear hb))
      | (go_at_call 83; ((with_reducible refine (cX _).mono ?_); rintro e w ⟨rfl, hb⟩; replace H := H.call hb; clear hb))
      | (go_at_call 84; ((with_reducible refine (cX _).mono ?_); rintro e w ⟨rfl, hb⟩; replace H := H.call hb; clear hb))
      )
      all_goals
        go_roundw
        case rel => exact (Or.inr (Or.inr (Or.inl ⟨rfl, H.sub (List.nil_sublist _)⟩)))
        case measure => simp [intOf]
    · go_wp2_with (first
      | ((with_reducible show wpList _ _ _ (⟨_, .box _ _, _, _, _, _⟩ :: _) _ _); refine H.box rfl rfl (cells_agg _) ?_; (intro g w H; simp only [Act.put, List.setIfInBounds_toArray, List.set_cons_zero, List.set_cons_succ]))
      | ((with_reducible show wpList _ _ _ (⟨_, .alloc 94, _, _, _, _⟩ :: _) _ _); refine H.mk0 rfl rD rfl ?_; (intro g w H; simp only [Act.put, List.setIfInBounds_toArray, List.set_cons_zero, List.set_cons_succ]))
      | ((with_reducible show wpList _ _ _ (⟨_, .alloc 95, _, _, _, _⟩ :: _) _ _); refine H.mk0 rfl rE rfl ?_; (intro g w H; simp only [Act.put, List.setIfInBounds_toArray, List.set_cons_zero, List.set_cons_succ]))
      | ((with_reducible show wpList _ _ _ (⟨_, .load 94 _, _, _, _, _⟩ :: _) _ _); refine H.ld rfl rD rfl rfl (by repeat (first | with_reducible exact List.mem_cons_self | apply List.mem_cons_of_mem)) (by first | with_reducible exact ext_2 _ _) (by rfl) ?_; simp only [Act.put, List.setIfInBounds_toArray, List.set_cons_zero, List.set_cons_succ])
      | ((with_reducible show wpList _ _ _ (⟨_, .load 95 _, _, _, _, _⟩ :: _) _ _); refine H.ld rfl rE rfl rfl (by repeat (first | with_reducible exact List.mem_cons_self | apply List.mem_cons_of_mem)) (by first | with_reducible exact ext_v8 _ _ _ _ _ _ _ _ ) (by rfl) ?_; simp only [Act.put, List.setIfInBounds_toArray, List.set_cons_zero, List.set_cons_succ])
      | ((with_reducible show wpList _ _ _ (⟨_, .load 23 _, _, _, _, _⟩ :: _) _ _); refine H.ld1 rfl oK rfl rfl (by repeat (first | with_reducible exact List.mem_cons_self | apply List.mem_cons_of_mem)) (by first | with_reducible exact get_20 _ _) ?_; simp only [Act.put, List.setIfInBounds_toArray, List.set_cons_zero, List.set_cons_succ])
      | ((with_reducible show wpList _ _ _ (⟨_, .load 92 _, _, _, _, _⟩ :: _) _ _); refine H.ld1 rfl oX rfl rfl (by repeat (first | with_reducible exact List.mem_cons_self | apply List.mem_cons_of_mem)) (by first | with_reducible exact get_21 _ _) ?_; simp only [Act.put, List.setIfInBounds_toArray, List.set_cons_zero, List.set_cons_succ])
      | ((with_reducible show wpList _ _ _ (⟨_, .store 94 _ _, _, _, _, _⟩ :: _) _ _); refine H.st rfl rD rfl rfl (cells_agg _) (by repeat (first | with_reducible exact Upd.head _ | apply Upd.tail)) (set_v2 _ _ _ _) (by rfl) (by exact one_of rfl) (by first | exact ble_le rfl | (change _ + 1 ≤ 12; omega) | (change _ + 1 ≤ 6; omega)) ?_; (intro w H; simp only [Act.put]))
      | ((with_reducible show wpList _ _ _ (⟨_, .store 95 _ _, _, _, _, _⟩ :: _) _ _); refine H.st rfl rE rfl rfl (cells_agg _) (by repeat (first | with_reducible exact Upd.head _ | apply Upd.tail)) (set_v8 _ _ _ _ _ _ _ _ _ _ _ _ _ _ _ _ ) (by rfl) (by exact one_of rfl) (by first | exact ble_le rfl | (change _ + 1 ≤ 12; omega) | (change _ + 1 ≤ 6; omega)) ?_; (intro w H; simp only [Act.put]))
      | ((with_reducible show wpList _ _ _ (⟨_, .index _ _ _, _, _, _, _⟩ :: _) _ _); (first | refine wp_index rfl rfl rfl rfl ix_0 ?_ | refine wp_index rfl rfl rfl rfl ix_1 ?_ | refine wp_index rfl rfl rfl rfl ix_2 ?_ | refine wp_index rfl rfl rfl rfl ix_3 ?_); simp only [Act.put, List.setIfInBounds_toArray, List.set_cons_zero, List.set_cons_succ])
      | (go_at_call 80; ((with_reducible refine (cX _).mono ?_); rintro e w ⟨rfl, hb⟩; replace H := H.call hb; clear hb))
      | (go_at_call 82; ((with_reducible refine (cX _).mono ?_); rintro e w ⟨rfl, hb⟩; replace H := H.call hb; clear hb))
      | (go_at_call 83; ((with_reducible refine (cX _).mono ?_); rintro e w ⟨rfl, hb⟩; replace H := H.call hb; clear hb))
      | (go_at_call 84; ((with_reducible refine (cX _).mono ?_); rintro e w ⟨rfl, hb⟩; replace H := H.call hb; clear hb))
      )
      all_goals
        go_roundw
        case rel => exact (Or.inr (Or.inr (Or.inr ⟨rfl, H.sub (List.nil_sublist _)⟩)))
        case measure => simp [intOf]
    · go_wp2_with (first
      | ((with_reducible show wpList _ _ _ (⟨_, .box _ _, _, _, _, _⟩ :: _) _ _); refine H.box rfl rfl (cells_agg _) ?_; (intro g w H; simp only [Act.put, List.setIfInBounds_toArray, List.set_cons_zero, List.set_cons_succ]))
      | ((with_reducible show wpList _ _ _ (⟨_, .alloc 94, _, _, _, _⟩ :: _) _ _); refine H.mk0 rfl rD rfl ?_; (intro g w H; simp only [Act.put, List.setIfInBounds_toArray, List.set_cons_zero, List.set_cons_succ]))
      | ((with_reducible show wpList _ _ _ (⟨_, .alloc 95, _, _, _, _⟩ :: _) _ _); refine H.mk0 rfl rE rfl ?_; (intro g w H; simp only [Act.put, List.setIfInBounds_toArray, List.set_cons_zero, List.set_cons_succ]))
      | ((with_reducible show wpList _ _ _ (⟨_, .load 94 _, _, _, _, _⟩ :: _) _ _); refine H.ld rfl rD rfl rfl (by repeat (first | with_reducible exact List.mem_cons_self | apply List.mem_cons_of_mem)) (by first | with_reducible exact ext_2 _ _) (by rfl) ?_; simp only [Act.put, List.setIfInBounds_toArray, List.set_cons_zero, List.set_cons_succ])
      | ((with_reducible show wpList _ _ _ (⟨_, .load 95 _, _, _, _, _⟩ :: _) _ _); refine H.ld rfl rE rfl rfl (by repeat (first | with_reducible exact List.mem_cons_self | apply List.mem_cons_of_mem)) (by first | with_reducible exact ext_v8 _ _ _ _ _ _ _ _ ) (by rfl) ?_; simp only [Act.put, List.setIfInBounds_toArray, List.set_cons_zero, List.set_cons_succ])
      | ((with_reducible show wpList _ _ _ (⟨_, .load 23 _, _, _, _, _⟩ :: _) _ _); refine H.ld1 rfl oK rfl rfl (by repeat (first | with_reducible exact List.mem_cons_self | apply List.mem_cons_of_mem)) (by first | with_reducible exact get_20 _ _) ?_; simp only [Act.put, List.setIfInBounds_toArray, List.set_cons_zero, List.set_cons_succ])
      | ((with_reducible show wpList _ _ _ (⟨_, .load 92 _, _, _, _, _⟩ :: _) _ _); refine H.ld1 rfl oX rfl rfl (by repeat (first | with_reducible exact List.mem_cons_self | apply List.mem_cons_of_mem)) (by first | with_reducible exact get_21 _ _) ?_; simp only [Act.put, List.setIfInBounds_toArray, List.set_cons_zero, List.set_cons_succ])
      | ((with_reducible show wpList _ _ _ (⟨_, .store 94 _ _, _, _, _, _⟩ :: _) _ _); refine H.st rfl rD rfl rfl (cells_agg _) (by repeat (first | with_reducible exact Upd.head _ | apply Upd.tail)) (set_v2 _ _ _ _) (by rfl) (by exact one_of rfl) (by first | exact ble_le rfl | (change _ + 1 ≤ 12; omega) | (change _ + 1 ≤ 6; omega)) ?_; (intro w H; simp only [Act.put]))
      | ((with_reducible show wpList _ _ _ (⟨_, .store 95 _ _, _, _, _, _⟩ :: _) _ _); refine H.st rfl rE rfl rfl (cells_agg _) (by repeat (first | with_reducible exact Upd.head _ | apply Upd.tail)) (set_v8 _ _ _ _ _ _ _ _ _ _ _ _ _ _ _ _ ) (by rfl) (by exact one_of rfl) (by first | exact ble_le rfl | (change _ + 1 ≤ 12; omega) | (change _ + 1 ≤ 6; omega)) ?_; (intro w H; simp only [Act.put]))
      | ((with_reducible show wpList _ _ _ (⟨_, .index _ _ _, _, _, _, _⟩ :: _) _ _); (first | refine wp_index rfl rfl rfl rfl ix_0 ?_ | refine wp_index rfl rfl rfl rfl ix_1 ?_ | refine wp_index rfl rfl rfl rfl ix_2 ?_ | refine wp_index rfl rfl rfl rfl ix_3 ?_); simp only [Act.put, List.setIfInBounds_toArray, List.set_cons_zero, List.set_cons_succ])
      | (go_at_call 80; ((with_reducible refine (cX _).mono ?_); rintro e w ⟨rfl, hb⟩; replace H := H.call hb; clear hb))
      | (go_at_call 82; ((with_reducible refine (cX _).mono ?_); rintro e w ⟨rfl, hb⟩; replace H := H.call hb; clear hb))
      | (go_at_call 83; ((with_reducible refine (cX _).mono ?_); rintro e w ⟨rfl, hb⟩; replace H := H.call hb; clear hb))
      | (go_at_call 84; ((with_reducible refine (cX _).mono ?_); rintro e w ⟨rfl, hb⟩; replace H := H.call hb; clear hb))
      )
      all_goals
        go_ret3
        exact ⟨by rfl, H.below⟩
set_option maxHeartbeats 3200000 in
set_option maxRecDepth 100000 in
theorem fiNumber_no (k : Nat) (x : Nat) (w0 : World) (h0 : ((0 : Int) == (k : Int)) = false) (h1 : ((1 : Int) == (k : Int)) = false) (h2 : ((2 : Int) == (k : Int)) = false) (h3 : ((3 : Int) == (k : Int)) = false) :
    Calls Tryd.prog 31 #[.int .u8 k, .int .u64 x] w0 fun e w' => e = .returned (.tuple #[.bool false, .int .u64 0, .int .i64 2]) ∧ Below w0.heap.size w0 w' := by
  have H := Own.start w0
  go_enter Tryd.func31, Tryd.ntmps31
  go_wp2_with (first
    | ((with_reducible show wpList _ _ _ (⟨_, .box _ _, _, _, _, _⟩ :: _) _ _); refine H.box rfl rfl (cells_agg _) ?_; (intro g w H; simp only [Act.put, List.setIfInBounds_toArray, List.set_cons_zero, List.set_cons_succ]))
    | ((with_reducible show wpList _ _ _ (⟨_, .alloc 94, _, _, _, _⟩ :: _) _ _); refine H.mk0 rfl rD rfl ?_; (intro g w H; simp only [Act.put, List.setIfInBounds_toArray, List.set_cons_zero, List.set_cons_succ]))
    | ((with_reducible show wpList _ _ _ (⟨_, .alloc 95, _, _, _, _⟩ :: _) _ _); refine H.mk0 rfl rE rfl ?_; (intro g w H; simp only [Act.put, List.setIfInBounds_toArray, List.set_cons_zero, List.set_cons_succ]))
    | ((with_reducible show wpList _ _ _ (⟨_, .load 94 _, _, _, _, _⟩ :: _) _ _); refine H.ld rfl rD rfl rfl (by repeat (first | with_reducible exact List.mem_cons_self | apply List.mem_cons_of_mem)) (by first | with_reducible exact ext_2 _ _) (by rfl) ?_; simp only [Act.put, List.setIfInBounds_toArray, List.set_cons_zero, List.set_cons_succ])
    | ((with_reducible show wpList _ _ _ (⟨_, .load 95 _, _, _, _, _⟩ :: _) _ _); refine H.ld rfl rE rfl rfl (by repeat (first | with_reducible exact List.mem_cons_self | apply List.mem_cons_of_mem)) (by first | with_reducible exact ext_v8 _ _ _ _ _ _ _ _ ) (by rfl) ?_; simp only [Act.put, List.setIfInBounds_toArray, List.set_cons_zero, List.set_cons_succ])
    | ((with_reducible show wpList _ _ _ (⟨_, .load 23 _, _, _, _, _⟩ :: _) _ _); refine H.ld1 rfl oK rfl rfl (by repeat (first | with_reducible exact List.mem_cons_self | apply List.mem_cons_of_mem)) (by first | with_reducible exact get_20 _ _) ?_; simp only [Act.put, List.setIfInBounds_toArray, List.set_cons_zero, List.set_cons_succ])
    | ((with_reducible show wpList _ _ _ (⟨_, .load 92 _, _, _, _, _⟩ :: _) _ _); refine H.ld1 rfl oX rfl rfl (by repeat (first | with_reducible exact List.mem_cons_self | apply List.mem_cons_of_mem)) (by first | with_reducible exact get_21 _ _) ?_; simp only [Act.put, List.setIfInBounds_toArray, List.set_cons_zero, List.set_cons_succ])
    | ((with_reducible show wpList _ _ _ (⟨_, .store 94 _ _, _, _, _, _⟩ :: _) _ _); refine H.st rfl rD rfl rfl (cells_agg _) (by repeat (first | with_reducible exact Upd.head _ | apply Upd.tail)) (set_v2 _ _ _ _) (by rfl) (by exact one_of rfl) (by first | exact ble_le rfl | (change _ + 1 ≤ 12; omega) | (change _ + 1 ≤ 6; omega)) ?_; (intro w H; simp only [Act.put]))
    | ((with_reducible show wpList _ _ _ (⟨_, .store 95 _ _, _, _, _, _⟩ :: _) _ _); refine H.st rfl rE rfl rfl (cells_agg _) (by repeat (first | with_reducible exact Upd.head _ | apply Upd.tail)) (set_v8 _ _ _ _ _ _ _ _ _ _ _ _ _ _ _ _ ) (by rfl) (by exact one_of rfl) (by first | exact ble_le rfl | (change _ + 1 ≤ 12; omega) | (change _ + 1 ≤ 6; omega)) ?_; (intro w H; simp only [Act.put]))
    | ((with_reducible show wpList _ _ _ (⟨_, .index _ _ _, _, _, _, _⟩ :: _) _ _); (first | refine wp_index rfl rfl rfl rfl ix_0 ?_ | refine wp_index rfl rfl rfl rfl ix_1 ?_ | refine wp_index rfl rfl rfl rfl ix_2 ?_ | refine wp_index rfl rfl rfl rfl ix_3 ?_); simp only [Act.put, List.setIfInBounds_toArray, List.set_cons_zero, List.set_cons_succ])
    | (go_at_call 80; ((with_reducible refine (cX _).mono ?_); rintro e w ⟨rfl, hb⟩; replace H := H.call hb; clear hb))
    | (go_at_call 82; ((with_reducible refine (cX _).mono ?_); rintro e w ⟨rfl, hb⟩; replace H := H.call hb; clear hb))
    | (go_at_call 83; ((with_reducible refine (cX _).mono ?_); rintro e w ⟨rfl, hb⟩; replace H := H.call hb; clear hb))
    | (go_at_call 84; ((with_reducible refine (cX _).mono ?_); rintro e w ⟨rfl, hb⟩; replace H := H.call hb; clear hb))
    )
  go_loopw [16] (fun i wr => (i = .int .i64 0 ∧ Own w0 wr []) ∨ (i = .int .i64 1 ∧ Own w0 wr []) ∨ (i = .int .i64 2 ∧ Own w0 wr []) ∨ (i = .int .i64 3 ∧ Own w0 wr []) ∨ (i = .int .i64 4 ∧ Own w0 wr [])) (fun i _ => 5 - (intOf i).toNat)
  case atStart => exact Or.inl ⟨rfl, H.sub (List.nil_sublist _)⟩
  case round =>
    clear H
    rcases hrel with ⟨rfl, H⟩ | ⟨rfl, H⟩ | ⟨rfl, H⟩ | ⟨rfl, H⟩ | ⟨rfl, H⟩
    · go_wp2_with (first
      | ((with_reducible show wpList _ _ _ (⟨_, .box _ _, _, _, _, _⟩ :: _) _ _); refine H.box rfl rfl (cells_agg _) ?_; (intro g w H; simp only [Act.put, List.setIfInBounds_toArray, List.set_cons_zero, List.set_cons_succ]))
      | ((with_reducible show wpList _ _ _ (⟨_, .alloc 94, _, _, _, _⟩ :: _) _ _); refine H.mk0 rfl rD rfl ?_; (intro g w H; simp only [Act.put, List.setIfInBounds_toArray, List.set_cons_zero, List.set_cons_succ]))
      | ((with_reducible show wpList _ _ _ (⟨_, .alloc 95, _, _, _, _⟩ :: _) _ _); refine H.mk0 rfl rE rfl ?_; (intro g w H; simp only [Act.put, List.setIfInBounds_toArray, List.set_cons_zero, List.set_cons_succ]))
      | ((with_reducible show wpList _ _ _ (⟨_, .load 94 _, _, _, _, _⟩ :: _) _ _); refine H.ld rfl rD rfl rfl (by repeat (first | with_reducible exact List.mem_cons_self | apply List.mem_cons_of_mem)) (by first | with_reducible exact ext_2 _ _) (by rfl) ?_; simp only [Act.put, List.setIfInBounds_toArray, List.set_cons_zero, List.set_cons_succ])
      | ((with_reducible show wpList _ _ _ (⟨_, .load 95 _, _, _, _, _⟩ :: _) _ _); refine H.ld rfl rE rfl rfl (by repeat (first | with_reducible exact List.mem_cons_self | apply List.mem_cons_of_mem)) (by first | with_reducible exact ext_v8 _ _ _ _ _ _ _ _ ) (by rfl) ?_; simp only [Act.put, List.setIfInBounds_toArray, List.set_cons_zero, List.set_cons_succ])
      | ((with_reducible show wpList _ _ _ (⟨_, .load 23 _, _, _, _, _⟩ :: _) _ _); refine H.ld1 rfl oK rfl rfl (by repeat (first | with_reducible exact List.mem_cons_self | apply List.mem_cons_of_mem)) (by first | with_reducible exact get_20 _ _) ?_; simp only [Act.put, List.setIfInBounds_toArray, List.set_cons_zero, List.set_cons_succ])
      | ((with_reducible show wpList _ _ _ (⟨_, .load 92 _, _, _, _, _⟩ :: _) _ _); refine H.ld1 rfl oX rfl rfl (by repeat (first | with_reducible exact List.mem_cons_self | apply List.mem_cons_of_mem)) (by first | with_reducible exact get_21 _ _) ?_; simp only [Act.put, List.setIfInBounds_toArray, List.set_cons_zero, List.set_cons_succ])
      | ((with_reducible show wpList _ _ _ (⟨_, .store 94 _ _, _, _, _, _⟩ :: _) _ _); refine H.st rfl rD rfl rfl (cells_agg _) (by repeat (first | with_reducible exact Upd.head _ | apply Upd.tail)) (set_v2 _ _ _ _) (by rfl) (by exact one_of rfl) (by first | exact ble_le rfl | (change _ + 1 ≤ 12; omega) | (change _ + 1 ≤ 6; omega)) ?_; (intro w H; simp only [Act.put]))
      | ((with_reducible show wpList _ _ _ (⟨_, .store 95 _ _, _, _, _, _⟩ :: _) _ _); refine H.st rfl rE rfl rfl (cells_agg _) (by repeat (first | with_reducible exact Upd.head _ | apply Upd.tail)) (set_v8 _ _ _ _ _ _ _ _ _ _ _ _ _ _ _ _ ) (by rfl) (by exact one_of rfl) (by first | exact ble_le rfl | (change _ + 1 ≤ 12; omega) | (change _ + 1 ≤ 6; omega)) ?_; (intro w H; simp only [Act.put]))
      | ((with_reducible show wpList _ _ _ (⟨_, .index _ _ _, _, _, _, _⟩ :: _) _ _); (first | refine wp_index rfl rfl rfl rfl ix_0 ?_ | refine wp_index rfl rfl rfl rfl ix_1 ?_ | refine wp_index rfl rfl rfl rfl ix_2 ?_ | refine wp_index rfl rfl rfl rfl ix_3 ?_); simp only [Act.put, List.setIfInBounds_toArray, List.set_cons_zero, List.set_cons_succ])
      | (go_at_call 80; ((with_reducible refine (cX _).mono ?_); rintro e w ⟨rfl, hb⟩; replace H := H.call hb; clear hb))
      | (go_at_call 82; ((with_reducible refine (cX _).mono ?_); rintro e w ⟨rfl, hb⟩; replace H := H.call hb; clear hb))
      | (go_at_call 83; ((with_reducible refine (cX _).mono ?_); rintro e w ⟨rfl, hb⟩; replace H := H.call hb; clear hb))
      | (go_at_call 84; ((with_reducible refine (cX _).mono ?_); rintro e w ⟨rfl, hb⟩; replace H := H.call hb; clear hb))
      )
      all_goals
        go_roundw
        case rel => exact (Or.inr (Or.inl ⟨rfl, H.sub (List.nil_sublist _)⟩))
        case measure => simp [intOf]
    · go_wp2_with (first
      | ((with_reducible show wpList _ _ _ (⟨_, .box _ _, _, _, _, _⟩ :: _) _ _); refine H.box rfl rfl (cells_agg _) ?_; (intro g w H; simp only [Act.put, List.setIfInBounds_toArray, List.set_cons_zero, List.set_cons_succ]))
      | ((with_reducible show wpList _ _ _ (⟨_, .alloc 94, _, _, _, _⟩ :: _) _ _); refine H.mk0 rfl rD rfl ?_; (intro g w H; simp only [Act.put, List.setIfInBounds_toArray, List.set_cons_zero, List.set_cons_succ]))
      | ((with_reducible show wpList _ _ _ (⟨_, .alloc 95, _, _, _, _⟩ :: _) _ _); refine H.mk0 rfl rE rfl ?_; (intro g w H; simp only [Act.put, List.setIfInBounds_toArray, List.set_cons_zero, List.set_cons_succ]))
      | ((with_reducible show wpList _ _ _ (⟨_, .load 94 _, _, _, _, _⟩ :: _) _ _); refine H.ld rfl rD rfl rfl (by repeat (first | with_reducible exact List.mem_cons_self | apply List.mem_cons_of_mem)) (by first | with_reducible exact ext_2 _ _) (by rfl) ?_; simp only [Act.put, List.setIfInBounds_toArray, List.set_cons_zero, List.set_cons_succ])
      | ((with_reducible show wpList _ _ _ (⟨_, .load 95 _, _, _, _, _⟩ :: _) _ _); refine H.ld rfl rE rfl rfl (by repeat (first | with_reducible exact List.mem_cons_self | apply List.mem_cons_of_mem)) (by first | with_reducible exact ext_v8 _ _ _ _ _ _ _ _ ) (by rfl) ?_; simp only [Act.put, List.setIfInBounds_toArray, List.set_cons_zero, List.set_cons_succ])
      | ((with_reducible show wpList _ _ _ (⟨_, .load 23 _, _, _, _, _⟩ :: _) _ _); refine H.ld1 rfl oK rfl rfl (by repeat (first | with_reducible exact List.mem_cons_self | apply List.mem_cons_of_mem)) (by first | with_reducible exact get_20 _ _) ?_; simp only [Act.put, List.setIfInBounds_toArray, List.set_cons_zero, List.set_cons_succ])
      | ((with_reducible show wpList _ _ _ (⟨_, .load 92 _, _, _, _, _⟩ :: _) _ _); refine H.ld1 rfl oX rfl rfl (by repeat (first | with_reducible exact List.mem_cons_self | apply List.mem_cons_of_mem)) (by first | with_reducible exact get_21 _ _) ?_; simp only [Act.put, List.setIfInBounds_toArray, List.set_cons_zero, List.set_cons_succ])
      | ((with_reducible show wpList _ _ _ (⟨_, .store 94 _ _, _, _, _, _⟩ :: _) _ _); refine H.st rfl rD rfl rfl (cells_agg _) (by repeat (first | with_reducible exact Upd.head _ | apply Upd.tail)) (set_v2 _ _ _ _) (by rfl) (by exact one_of rfl) (by first | exact ble_le rfl | (change _ + 1 ≤ 12; omega) | (change _ + 1 ≤ 6; omega)) ?_; (intro w H; simp only [Act.put]))
      | ((with_reducible show wpList _ _ _ (⟨_, .store 95 _ _, _, _, _, _⟩ :: _) _ _); refine H.st rfl rE rfl rfl (cells_agg _) (by repeat (first | with_reducible exact Upd.head _ | apply Upd.tail)) (set_v8 _ _ _ _ _ _ _ _ _ _ _ _ _ _ _ _ ) (by rfl) (by exact one_of rfl) (by first | exact ble_le rfl | (change _ + 1 ≤ 12; omega) | (change _ + 1 ≤ 6; omega)) ?_; (intro w H; simp only [Act.put]))
      | ((with_reducible show wpList _ _ _ (⟨_, .index _ _ _, _, _, _, _⟩ :: _) _ _); (first | refine wp_index rfl rfl rfl rfl ix_0 ?_ | refine wp_index rfl rfl rfl rfl ix_1 ?_ | refine wp_index rfl rfl rfl rfl ix_2 ?_ | refine wp_index rfl rfl rfl rfl ix_3 ?_); simp only [Act.put, List.setIfInBounds_toArray, List.set_cons_zero, List.set_cons_succ])
      | (go_at_call 80; ((with_reducible refine (cX _).mono ?_); rintro e w ⟨rfl, hb⟩; replace H := H.call hb; clear hb))
      | (go_at_call 82; ((with_reducible refine (cX _).mono ?_); rintro e w ⟨rfl, hb⟩; replace H := H.call hb; clear hb))
      | (go_at_call 83; ((with_reducible refine (cX _).mono ?_); rintro e w ⟨rfl, hb⟩; replace H := H.call hb; clear hb))
      | (go_at_call 84; ((with_reducible refine (cX _).mono ?_); rintro e w ⟨rfl, hb⟩; replace H := H.call hb; clear hb))
      )
      all_goals
        go_roundw
        case rel => exact (Or.inr (Or.inr (Or.inl ⟨rfl, H.sub (List.nil_sublist _)⟩)))
        case measure => simp [intOf]
    · go_wp2_with (first
      | ((with_reducible show wpList _ _ _ (⟨_, .box _ _, _, _, _, _⟩ :: _) _ _); refine H.box rfl rfl (cells_agg _) ?_; (intro g w H; simp only [Act.put, List.setIfInBounds_toArray, List.set_cons_zero, List.set_cons_succ]))
      | ((with_reducible show wpList _ _ _ (⟨_, .alloc 94, _, _, _, _⟩ :: _) _ _); refine H.mk0 rfl rD rfl ?_; (intro g w H; simp only [Act.put, List.setIfInBounds_toArray, List.set_cons_zero, List.set_cons_succ]))
      | ((with_reducible show wpList _ _ _ (⟨_, .alloc 95, _, _, _, _⟩ :: _) _ _); refine H.mk0 rfl rE rfl ?_; (intro g w H; simp only [Act.put, List.setIfInBounds_toArray, List.set_cons_zero, List.set_cons_succ]))
      | ((with_reducible show wpList _ _ _ (⟨_, .load 94 _, _, _, _, _⟩ :: _) _ _); refine H.ld rfl rD rfl rfl (by repeat (first | with_reducible exact List.mem_cons_self | apply List.mem_cons_of_mem)) (by first | with_reducible exact ext_2 _ _) (by rfl) ?_; simp only [Act.put, List.setIfInBounds_toArray, List.set_cons_zero, List.set_cons_succ])
      | ((with_reducible show wpList _ _ _ (⟨_, .load 95 _, _, _, _, _⟩ :: _) _ _); refine H.ld rfl rE rfl rfl (by repeat (first | with_reducible exact List.mem_cons_self | apply List.mem_cons_of_mem)) (by first | with_reducible exact ext_v8 _ _ _ _ _ _ _ _ ) (by rfl) ?_; simp only [Act.put, List.setIfInBounds_toArray, List.set_cons_zero, List.set_cons_succ])
      | ((with_reducible show wpList _ _ _ (⟨_, .load 23 _, _, _, _, _⟩ :: _) _ _); refine H.ld1 rfl oK rfl rfl (by repeat (first | with_reducible exact List.mem_cons_self | apply List.mem_cons_of_mem)) (by first | with_reducible exact get_20 _ _) ?_; simp only [Act.put, List.setIfInBounds_toArray, List.set_cons_zero, List.set_cons_succ])
      | ((with_reducible show wpList _ _ _ (⟨_, .load 92 _, _, _, _, _⟩ :: _) _ _); refine H.ld1 rfl oX rfl rfl (by repeat (first | with_reducible exact List.mem_cons_self | apply List.mem_cons_of_mem)) (by first | with_reducible exact get_21 _ _) ?_; simp only [Act.put, List.setIfInBounds_toArray, List.set_cons_zero, List.set_cons_succ])
      | ((with_reducible show wpList _ _ _ (⟨_, .store 94 _ _, _, _, _, _⟩ :: _) _ _); refine H.st rfl rD rfl rfl (cells_agg _) (by repeat (first | with_reducible exact Upd.head _ | apply Upd.tail)) (set_v2 _ _ _ _) (by rfl) (by exact one_of rfl) (by first | exact ble_le rfl | (change _ + 1 ≤ 12; omega) | (change _ + 1 ≤ 6; omega)) ?_; (intro w H; simp only [Act.put]))
      | ((with_reducible show wpList _ _ _ (⟨_, .store 95 _ _, _, _, _, _⟩ :: _) _ _); refine H.st rfl rE rfl rfl (cells_agg _) (by repeat (first | with_reducible exact Upd.head _ | apply Upd.tail)) (set_v8 _ _ _ _ _ _ _ _ _ _ _ _ _ _ _ _ ) (by rfl) (by exact one_of rfl) (by first | exact ble_le rfl | (change _ + 1 ≤ 12; omega) | (change _ + 1 ≤ 6; omega)) ?_; (intro w H; simp only [Act.put]))
      | ((with_reducible show wpList _ _ _ (⟨_, .index _ _ _, _, _, _, _⟩ :: _) _ _); (first | refine wp_index rfl rfl rfl rfl ix_0 ?_ | refine wp_index rfl rfl rfl rfl ix_1 ?_ | refine wp_index rfl rfl rfl rfl ix_2 ?_ | refine wp_index rfl rfl rfl rfl ix_3 ?_); simp only [Act.put, List.setIfInBounds_toArray, List.set_cons_zero, List.set_cons_succ])
      | (go_at_call 80; ((with_reducible refine (cX _).mono ?_); rintro e w ⟨rfl, hb⟩; replace H := H.call hb; clear hb))
      | (go_at_call 82; ((with_reducible refine (cX _).mono ?_); rintro e w ⟨rfl, hb⟩; replace H := H.call hb; clear hb))
      | (go_at_call 83; ((with_reducible refine (cX _).mono ?_); rintro e w ⟨rfl, hb⟩; replace H := H.call hb; clear hb))
      | (go_at_call 84; ((with_reducible refine (cX _).mono ?_); rintro e w ⟨rfl, hb⟩; replace H := H.call hb; clear hb))
      )
      all_goals
        go_roundw
        case rel => exact (Or.inr (Or.inr (Or.inr (Or.inl ⟨rfl, H.sub (List.nil_sublist _)⟩))))
        case measure => simp [intOf]
    · go_wp2_with (first
      | ((with_reducible show wpList _ _ _ (⟨_, .box _ _, _, _, _, _⟩ :: _) _ _); refine H.box rfl rfl (cells_agg _) ?_; (intro g w H; simp only [Act.put, List.setIfInBounds_toArray, List.set_cons_zero, List.set_cons_succ]))
      | ((with_reducible show wpList _ _ _ (⟨_, .alloc 94, _, _, _, _⟩ :: _) _ _); refine H.mk0 rfl rD rfl ?_; (intro g w H; simp only [Act.put, List.setIfInBounds_toArray, List.set_cons_zero, List.set_cons_succ]))
      | ((with_reducible show wpList _ _ _ (⟨_, .alloc 95, _, _, _, _⟩ :: _) _ _); refine H.mk0 rfl rE rfl ?_; (intro g w H; simp only [Act.put, List.setIfInBounds_toArray, List.set_cons_zero, List.set_cons_succ]))
      | ((with_reducible show wpList _ _ _ (⟨_, .load 94 _, _, _, _, _⟩ :: _) _ _); refine H.ld rfl rD rfl rfl (by repeat (first | with_reducible exact List.mem_cons_self | apply List.mem_cons_of_mem)) (by first | with_reducible exact ext_2 _ _) (by rfl) ?_; simp only [Act.put, List.setIfInBounds_toArray, List.set_cons_zero, List.set_cons_succ])
      | ((with_reducible show wpList _ _ _ (⟨_, .load 95 _, _, _, _, _⟩ :: _) _ _); refine H.ld rfl rE rfl rfl (by repeat (first | with_reducible exact List.mem_cons_self | apply List.mem_cons_of_mem)) (by first | with_reducible exact ext_v8 _ _ _ _ _ _ _ _ ) (by rfl) ?_; simp only [Act.put, List.setIfInBounds_toArray, List.set_cons_zero, List.set_cons_succ])
      | ((with_reducible show wpList _ _ _ (⟨_, .load 23 _, _, _, _, _⟩ :: _) _ _); refine H.ld1 rfl oK rfl rfl (by repeat (first | with_reducible exact List.mem_cons_self | apply List.mem_cons_of_mem)) (by first | with_reducible exact get_20 _ _) ?_; simp only [Act.put, List.setIfInBounds_toArray, List.set_cons_zero, List.set_cons_succ])
      | ((with_reducible show wpList _ _ _ (⟨_, .load 92 _, _, _, _, _⟩ :: _) _ _); refine H.ld1 rfl oX rfl rfl (by repeat (first | with_reducible exact List.mem_cons_self | apply List.mem_cons_of_mem)) (by first | with_reducible exact get_21 _ _) ?_; simp only [Act.put, List.setIfInBounds_toArray, List.set_cons_zero, List.set_cons_succ])
      | ((with_reducible show wpList _ _ _ (⟨_, .store 94 _ _, _, _, _, _⟩ :: _) _ _); refine H.st rfl rD rfl rfl (cells_agg _) (by repeat (first | with_reducible exact Upd.head _ | apply Upd.tail)) (set_v2 _ _ _ _) (by rfl) (by exact one_of rfl) (by first | exact ble_le rfl | (change _ + 1 ≤ 12; omega) | (change _ + 1 ≤ 6; omega)) ?_; (intro w H; simp only [Act.put]))
      | ((with_reducible show wpList _ _ _ (⟨_, .store 95 _ _, _, _, _, _⟩ :: _) _ _); refine H.st rfl rE rfl rfl (cells_agg _) (by repeat (first | with_reducible exact Upd.head _ | apply Upd.tail)) (set_v8 _ _ _ _ _ _ _ _ _ _ _ _ _ _ _ _ ) (by rfl) (by exact one_of rfl) (by first | exact ble_le rfl | (change _ + 1 ≤ 12; omega) | (change _ + 1 ≤ 6; omega)) ?_; (intro w H; simp only [Act.put]))
      | ((with_reducible show wpList _ _ _ (⟨_, .index _ _ _, _, _, _, _⟩ :: _) _ _); (first | refine wp_index rfl rfl rfl rfl ix_0 ?_ | refine wp_index rfl rfl rfl rfl ix_1 ?_ | refine wp_index rfl rfl rfl rfl ix_2 ?_ | refine wp_index rfl rfl rfl rfl ix_3 ?_); simp only [Act.put, List.setIfInBounds_toArray, List.set_cons_zero, List.set_cons_succ])
      | (go_at_call 80; ((with_reducible refine (cX _).mono ?_); rintro e w ⟨rfl, hb⟩; replace H := H.call hb; clear hb))
      | (go_at_call 82; ((with_reducible refine (cX _).mono ?_); rintro e w ⟨rfl, hb⟩; replace H := H.call hb; clear hb))
      | (go_at_call 83; ((with_reducible refine (cX _).mono ?_); rintro e w ⟨rfl, hb⟩; replace H := H.call hb; clear hb))
      | (go_at_call 84; ((with_reducible refine (cX _).mono ?_); rintro e w ⟨rfl, hb⟩; replace H := H.call hb; clear hb))
      )
      all_goals
        go_roundw
        case rel => exact (Or.inr (Or.inr (Or.inr (Or.inr ⟨rfl, H.sub (List.nil_sublist _)⟩))))
        case measure => simp [intOf]
    · go_wp2_with (first
      | ((with_reducible show wpList _ _ _ (⟨_, .box _ _, _, _, _, _⟩ :: _) _ _); refine H.box rfl rfl (cells_agg _) ?_; (intro g w H; simp only [Act.put, List.setIfInBounds_toArray, List.set_cons_zero, List.set_cons_succ]))
      | ((with_reducible show wpList _ _ _ (⟨_, .alloc 94, _, _, _, _⟩ :: _) _ _); refine H.mk0 rfl rD rfl ?_; (intro g w H; simp only [Act.put, List.setIfInBounds_toArray, List.set_cons_zero, List.set_cons_succ]))
      | ((with_reducible show wpList _ _ _ (⟨_, .alloc 95, _, _, _, _⟩ :: _) _ _); refine H.mk0 rfl rE rfl ?_; (intro g w H; simp only [Act.put, List.setIfInBounds_toArray, List.set_cons_zero, List.set_cons_succ]))
      | ((with_reducible show wpList _ _ _ (⟨_, .load 94 _, _, _, _, _⟩ :: _) _ _); refine H.ld rfl rD rfl rfl (by repeat (first | with_reducible exact List.mem_cons_self | apply List.mem_cons_of_mem)) (by first | with_reducible exact ext_2 _ _) (by rfl) ?_; simp only [Act.put, List.setIfInBounds_toArray, List.set_cons_zero, List.set_cons_succ])
      | ((with_reducible show wpList _ _ _ (⟨_, .load 95 _, _, _, _, _⟩ :: _) _ _); refine H.ld rfl rE rfl rfl (by repeat (first | with_reducible exact List.mem_cons_self | apply List.mem_cons_of_mem)) (by first | with_reducible exact ext_v8 _ _ _ _ _ _ _ _ ) (by rfl) ?_; simp only [Act.put, List.setIfInBounds_toArray, List.set_cons_zero, List.set_cons_succ])
      | ((with_reducible show wpList _ _ _ (⟨_, .load 23 _, _, _, _, _⟩ :: _) _ _); refine H.ld1 rfl oK rfl rfl (by repeat (first | with_reducible exact List.mem_cons_self | apply List.mem_cons_of_mem)) (by first | with_reducible exact get_20 _ _) ?_; simp only [Act.put, List.setIfInBounds_toArray, List.set_cons_zero, List.set_cons_succ])
      | ((with_reducible show wpList _ _ _ (⟨_, .load 92 _, _, _, _, _⟩ :: _) _ _); refine H.ld1 rfl oX rfl rfl (by repeat (first | with_reducible exact List.mem_cons_self | apply List.mem_cons_of_mem)) (by first | with_reducible exact get_21 _ _) ?_; simp only [Act.put, List.setIfInBounds_toArray, List.set_cons_zero, List.set_cons_succ])
      | ((with_reducible show wpList _ _ _ (⟨_, .store 94 _ _, _, _, _, _⟩ :: _) _ _); refine H.st rfl rD rfl rfl (cells_agg _) (by repeat (first | with_reducible exact Upd.head _ | apply Upd.tail)) (set_v2 _ _ _ _) (by rfl) (by exact one_of rfl) (by first | exact ble_le rfl | (change _ + 1 ≤ 12; omega) | (change _ + 1 ≤ 6; omega)) ?_; (intro w H; simp only [Act.put]))
      | ((with_reducible show wpList _ _ _ (⟨_, .store 95 _ _, _, _, _, _⟩ :: _) _ _); refine H.st rfl rE rfl rfl (cells_agg _) (by repeat (first | with_reducible exact Upd.head _ | apply Upd.tail)) (set_v8 _ _ _ _ _ _ _ _ _ _ _ _ _ _ _ _ ) (by rfl) (by exact one_of rfl) (by first | exact ble_le rfl | (change _ + 1 ≤ 12; omega) | (change _ + 1 ≤ 6; omega)) ?_; (intro w H; simp only [Act.put]))
      | ((with_reducible show wpList _ _ _ (⟨_, .index _ _ _, _, _, _, _⟩ :: _) _ _); (first | refine wp_index rfl rfl rfl rfl ix_0 ?_ | refine wp_index rfl rfl rfl rfl ix_1 ?_ | refine wp_index rfl rfl rfl rfl ix_2 ?_ | refine wp_index rfl rfl rfl rfl ix_3 ?_); simp only [Act.put, List.setIfInBounds_toArray, List.set_cons_zero, List.set_cons_succ])
      | (go_at_call 80; ((with_reducible refine (cX _).mono ?_); rintro e w ⟨rfl, hb⟩; replace H := H.call hb; clear hb))
      | (go_at_call 82; ((with_reducible refine (cX _).mono ?_); rintro e w ⟨rfl, hb⟩; replace H := H.call hb; clear hb))
      | (go_at_call 83; ((with_reducible refine (cX _).mono ?_); rintro e w ⟨rfl, hb⟩; replace H := H.call hb; clear hb))
      | (go_at_call 84; ((with_reducible refine (cX _).mono ?_); rintro e w ⟨rfl, hb⟩; replace H := H.call hb; clear hb))
      )
      all_goals
        go_ret3
        exact ⟨by rfl, H.below⟩
end Go.Proofs.YtdcgcjmajacgiaaDoor

namespace Go.Proofs.YtdcgcjmajacgiaaDoor
def nanB (c : Nat) : Bool := decide (8 ≤ c)
def infB (c : Nat) : Bool := decide (c = 0) || decide (c = 7)
def zerB (c : Nat) : Bool := decide (c = 3) || decide (c = 4)
/-- The canonical NaN, loud if one is signaling. -/
def canonR (f c d : Nat) : Nat × Nat := (nanN f, cond (decide (c = 8) || decide (d = 8)) 16 0)
def mulR (f m a b : Nat) : Nat × Nat :=
  if (nanB (clsN f a) || nanB (clsN f b)) = true then canonR f (clsN f a) (clsN f b)
  else if (infB (clsN f a) && zerB (clsN f b) || infB (clsN f b) && zerB (clsN f a)) = true then (nanN f, 16)
  else if (infB (clsN f a) || infB (clsN f b)) = true then (infN f (belowN4 (clsN f a) != belowN4 (clsN f b)), 0)
  else if (zerB (clsN f a) || zerB (clsN f b)) = true then (zeroN f (belowN4 (clsN f a) != belowN4 (clsN f b)), 0)
  else packB f m (belowN4 (clsN f a) != belowN4 (clsN f b)) (sigN f a * sigN f b) (xpN f a + xpN f b) false
/-- With the other sign. -/
def flipN (f a : Nat) : Nat := cond (fitsB f a) (mkN f (!negN f a) (expN f a) (a % 2 ^ (pF f - 1))) 0
theorem enc_neg (f c : Nat) (q : Int) (neg : Bool) : encN f neg c q = encN f false c q + signN f neg := by unfold encN; cases neg <;> simp [signN]
theorem mk_neg (f : Nat) (neg : Bool) (e t : Nat) : mkN f neg e t = mkN f false e t + signN f neg := by unfold mkN; cases neg <;> simp [signN]
/-- The number by its sign and its other fields. -/
theorem of_sign (f a : Nat) (h : fitsB f a = true) (neg : Bool) : mkN f neg (expN f a) (a % 2 ^ (pF f - 1)) = cond (decide (neg = negN f a)) a (flipN f a) := by
  by_cases hn : neg = negN f a
  · rw [decide_eq_true hn, hn]; exact mkN_of f a h
  · rw [decide_eq_false hn]
    have : neg = !negN f a := by cases neg <;> cases hh : negN f a <;> simp_all
    unfold flipN; rw [h, this]; rfl
theorem fin_sign (f a : Nat) (h : fitsB f a = true) (hc : Fin0 f a) (neg : Bool) : encN f neg (sigN f a) (xpN f a) = mkN f neg (expN f a) (a % 2 ^ (pF f - 1)) := by
  have h1 := (can_of f a h hc).2
  have h2 := mkN_of f a h
  rw [enc_neg, mk_neg]
  rw [enc_neg] at h1
  unfold negN at h1
  rw [mk_neg] at h2
  omega
theorem cls_sort (f b : Nat) : 8 ≤ clsN f b ∨ (clsN f b = 0 ∨ clsN f b = 7) ∨ (clsN f b = 3 ∨ clsN f b = 4) ∨ Fin0 f b := by
  have := cls_le f b
  unfold Fin0; omega
theorem one_mk (f : Nat) (neg : Bool) (hf : f < 4) : oneN f neg = mkN f neg (eF f) 0 := by unfold oneN mkN; rw [decide_eq_true hf]; rfl
theorem one_parts (f : Nat) (neg : Bool) (hf : f < 4) : fitsB f (oneN f neg) = true ∧ clsN f (oneN f neg) = cond neg 1 6 ∧ sigN f (oneN f neg) = 2 ^ (pF f - 1) ∧ xpN f (oneN f neg) = 1 - (pF f : Int) := by
  rw [one_mk f neg hf]
  obtain ⟨h1, h2, h3, h4, h5, h6, h7, h8⟩ := formK f hf
  obtain ⟨m1, m2, m3, m4⟩ := mkN_fields f hf neg (eF f) 0 (two_pos _) (by omega)
  rcases cls_cases f (mkN f neg (eF f) 0) with ⟨e1, e2, e3⟩ | ⟨e1, e2, e3⟩ | ⟨e1, e2, e3⟩ | ⟨e1, e2, e3⟩ | ⟨e1, e2, e3⟩
  · omega
  · omega
  · omega
  · omega
  · have hn : negN f (mkN f neg (eF f) 0) = neg := m3
    rw [hn] at e3
    have c1 : clsN f (mkN f neg (eF f) 0) = 1 ∨ clsN f (mkN f neg (eF f) 0) = 6 := by rw [e3]; cases neg <;> decide
    refine ⟨m4, e3, ?_, ?_⟩
    · unfold sigN; rw [if_pos c1, m1, Nat.zero_add]
    · unfold xpN; rw [if_pos c1, m2]; omega
theorem bne_false (b : Bool) : (b != false) = b := by cases b <;> rfl
/-- Times 1, times -1. -/
theorem mul_one (f m a : Nat) (neg : Bool) (hf : f < 4) (h : fitsB f a = true) (h8 : ¬ 8 ≤ clsN f a) : mulR f m a (oneN f neg) = (cond neg (flipN f a) a, 0) := by
  obtain ⟨o1, o2, o3, o4⟩ := one_parts f neg hf
  have ho : belowN4 (clsN f (oneN f neg)) = neg := by rw [o2]; cases neg <;> rfl
  have hon : nanB (clsN f (oneN f neg)) = false ∧ infB (clsN f (oneN f neg)) = false ∧ zerB (clsN f (oneN f neg)) = false := by rw [o2]; cases neg <;> exact ⟨rfl, rfl, rfl⟩
  have hbn := below_neg f a h8
  have hbody : ∀ s : Bool, mkN f s (expN f a) (a % 2 ^ (pF f - 1)) = cond (decide (s = negN f a)) a (flipN f a) := of_sign f a h
  have hpick : mkN f (negN f a != neg) (expN f a) (a % 2 ^ (pF f - 1)) = cond neg (flipN f a) a := by
    rw [hbody]; cases neg <;> cases negN f a <;> rfl
  unfold mulR
  rw [hon.1, hon.2.1, hon.2.2, ho, hbn]
  rcases cls_sort f a with c | c | c | c
  · exact absurd c h8
  · have e1 : nanB (clsN f a) = false := by rcases c with c | c <;> rw [c] <;> rfl
    have e2 : infB (clsN f a) = true := by rcases c with c | c <;> rw [c] <;> rfl
    have e3 : zerB (clsN f a) = false := by rcases c with c | c <;> rw [c] <;> rfl
    rw [e1, e2, e3]
    simp only [Bool.or_self, Bool.false_eq_true, if_false, Bool.and_false, Bool.or_false, if_true]
    rw [infN_mk f _ hf]
    have hx : expN f a = 2 * eF f + 1 ∧ a % 2 ^ (pF f - 1) = 0 := by
      rcases cls_cases f a with ⟨e1, e2, e3⟩ | ⟨e1, e2, e3⟩ | ⟨e1, e2, e3⟩ | ⟨e1, e2, e3⟩ | ⟨e1, e2, e3⟩
      · exact ⟨e1, e2⟩
      · exfalso; rw [e3] at c; revert c; cases (a % 2 ^ (pF f - 1)).testBit (pF f - 2) <;> decide
      · exfalso; rw [e3] at c; revert c; cases negN f a <;> decide
      · exfalso; rw [e3] at c; revert c; cases negN f a <;> decide
      · exfalso; rw [e3] at c; revert c; cases negN f a <;> decide
    rw [← hpick, hx.1, hx.2]
  · have e1 : nanB (clsN f a) = false := by rcases c with c | c <;> rw [c] <;> rfl
    have e2 : infB (clsN f a) = false := by rcases c with c | c <;> rw [c] <;> rfl
    have e3 : zerB (clsN f a) = true := by rcases c with c | c <;> rw [c] <;> rfl
    rw [e1, e2, e3]
    simp only [Bool.or_self, Bool.false_eq_true, if_false, Bool.and_true, Bool.or_false, Bool.and_self, if_true]
    rw [zeroN_mk f _ hf]
    have hx : expN f a = 0 ∧ a % 2 ^ (pF f - 1) = 0 := by
      rcases cls_cases f a with ⟨e1, e2, e3⟩ | ⟨e1, e2, e3⟩ | ⟨e1, e2, e3⟩ | ⟨e1, e2, e3⟩ | ⟨e1, e2, e3⟩
      · exfalso; rw [e3] at c; revert c; cases negN f a <;> decide
      · exfalso; rw [e3] at c; revert c; cases (a % 2 ^ (pF f - 1)).testBit (pF f - 2) <;> decide
      · exact ⟨e1, e2⟩
      · exfalso; rw [e3] at c; revert c; cases negN f a <;> decide
      · exfalso; rw [e3] at c; revert c; cases negN f a <;> decide
    rw [← hpick, hx.1, hx.2]
  · have e1 : nanB (clsN f a) = false := by rcases c with c | c | c | c <;> rw [c] <;> rfl
    have e2 : infB (clsN f a) = false := by rcases c with c | c | c | c <;> rw [c] <;> rfl
    have e3 : zerB (clsN f a) = false := by rcases c with c | c | c | c <;> rw [c] <;> rfl
    rw [e1, e2, e3]
    simp only [Bool.or_self, Bool.false_eq_true, if_false, Bool.and_self]
    obtain ⟨hc, -⟩ := can_of f a h c
    rw [o3, o4]
    have h7 := (formK f hf).2.2.2.2.2.2.1
    rw [pack_exact f m (sigN f a) _ (xpN f a) _ _ hf hc (Or.inl ⟨by omega, by rw [show (xpN f a - (xpN f a + (1 - (pF f : Int)))).toNat = pF f - 1 by omega]⟩)]
    rw [fin_sign f a h c, hpick]
end Go.Proofs.YtdcgcjmajacgiaaDoor

namespace Go.Proofs.YtdcgcjmajacgiaaDoor
theorem pF_113 (f : Nat) : pF f ≤ 113 := by
  rcases forms f with rfl | rfl | rfl | rfl | h
  · decide
  · decide
  · decide
  · decide
  · rw [(wF_big f h).2.1]; decide
theorem lt_pwr (T b c x : Nat) (h : T = 2 ^ c) (hb : b ≤ c) (hx : x < 2 ^ b) : x < T := by rw [h]; exact Nat.lt_of_lt_of_le hx (Nat.pow_le_pow_right (by decide) hb)
theorem gridN_le (m s p : Nat) (neg mo : Bool) (e at_ : Int) (h : (lenN s : Int) + e - at_ ≤ p) : (gridN m neg s e mo at_).1 ≤ 2 ^ p := by
  have hs := lenN_lt s
  unfold gridN
  by_cases hn : at_ ≤ e
  · rw [if_pos hn]
    obtain ⟨d, hd⟩ : ∃ d, d = (e - at_).toNat := ⟨_, rfl⟩
    rw [← hd]
    have h1 : s * 2 ^ d ≤ 2 ^ lenN s * 2 ^ d := Nat.mul_le_mul_right _ (Nat.le_of_lt hs)
    rw [← Nat.pow_add] at h1
    exact Nat.le_trans h1 (Nat.pow_le_pow_right (by decide) (by omega))
  · rw [if_neg hn]
    obtain ⟨d, hd⟩ : ∃ d, d = (at_ - e).toNat := ⟨_, rfl⟩
    rw [← hd]
    have h1 : s < 2 ^ (p + d) := Nat.lt_of_lt_of_le hs (Nat.pow_le_pow_right (by decide) (by omega))
    rw [Nat.pow_add] at h1
    have h2 : s / 2 ^ d < 2 ^ p := by
      rw [Nat.div_lt_iff_lt_mul (two_pos d)]; exact h1
    have h3 : ∀ b : Bool, s / 2 ^ d + cond b 1 0 ≤ 2 ^ p := by intro b; cases b <;> simp only [cond_true, cond_false] <;> omega
    exact h3 _
theorem lt_top114 (x p : Nat) (hp : p ≤ 113) (h : x ≤ 2 ^ p) : x < top6 :=
  lt_pwr top6 (p + 1) (64 * 6) x top6.eq_1 (by omega) (Nat.lt_of_le_of_lt h (Nat.pow_lt_pow_right (by decide) (by omega)))
theorem lenN_le_of (x p : Nat) (h : x ≤ 2 ^ p) : lenN x ≤ p + 1 := (lenN_le x (p + 1)).2 (Nat.lt_of_le_of_lt h (Nat.pow_lt_pow_right (by decide) (by omega)))
theorem enc_lt (f k : Nat) (d : Nat) (hf : f < 4) (hk : k ≤ 2 ^ pF f) (hd : d + 1 ≤ 2 * eF f) : d * 2 ^ (pF f - 1) + k < 2 ^ (wF f - 1) := by
  have hK := formK f hf
  rw [hK.2.1, Nat.pow_add, hK.2.2.1, Nat.mul_comm (2 ^ (pF f - 1))]
  have h2 : 2 ^ pF f = 2 * 2 ^ (pF f - 1) := by
    rw [show pF f = (pF f - 1) + 1 by omega, Nat.pow_succ, Nat.add_sub_cancel]; omega
  have := two_pos (pF f - 1)
  have h3 : (d + 3) * 2 ^ (pF f - 1) ≤ (2 * eF f + 2) * 2 ^ (pF f - 1) := Nat.mul_le_mul_right _ (by omega)
  rw [Nat.add_mul] at h3
  omega
end Go.Proofs.YtdcgcjmajacgiaaDoor

namespace Go.Proofs.YtdcgcjmajacgiaaDoor
theorem below_fits (f a : Nat) (h : fitsB f a = true) : a < 2 ^ (64 * 2) := by
  obtain ⟨h4, hb⟩ := (fits_iff f a).1 h
  exact Nat.lt_of_lt_of_le hb (Nat.pow_le_pow_right (by decide) (by have := (formB f h4).2.2.2.1; omega))
end Go.Proofs.YtdcgcjmajacgiaaDoor

namespace Go.Proofs.YtdcgcjmajacgiaaDoor
/-- How many bits the dividend is moved up. -/
def divSh (f a b : Nat) : Nat := (max ((pF f : Int) + 3 + lenN (sigN f b) - lenN (sigN f a)) 0).toNat
def divR (f m a b : Nat) : Nat × Nat :=
  if (nanB (clsN f a) || nanB (clsN f b)) = true then canonR f (clsN f a) (clsN f b)
  else if (infB (clsN f a) && infB (clsN f b) || zerB (clsN f a) && zerB (clsN f b)) = true then (nanN f, 16)
  else if infB (clsN f a) = true then (infN f (belowN4 (clsN f a) != belowN4 (clsN f b)), 0)
  else if (infB (clsN f b) || zerB (clsN f a)) = true then (zeroN f (belowN4 (clsN f a) != belowN4 (clsN f b)), 0)
  else if zerB (clsN f b) = true then (infN f (belowN4 (clsN f a) != belowN4 (clsN f b)), 8)
  else packB f m (belowN4 (clsN f a) != belowN4 (clsN f b)) (sigN f a * 2 ^ divSh f a b / sigN f b) (xpN f a - xpN f b - divSh f a b) (!decide (sigN f a * 2 ^ divSh f a b % sigN f b = 0))
theorem fin_flags (f b : Nat) (h : Fin0 f b) : nanB (clsN f b) = false ∧ infB (clsN f b) = false ∧ zerB (clsN f b) = false := by
  rcases h with c | c | c | c <;> rw [c] <;> exact ⟨rfl, rfl, rfl⟩
theorem zer_flags (f b : Nat) (h : clsN f b = 3 ∨ clsN f b = 4) : nanB (clsN f b) = false ∧ infB (clsN f b) = false ∧ zerB (clsN f b) = true := by
  rcases h with c | c <;> rw [c] <;> exact ⟨rfl, rfl, rfl⟩
/-- By 1. -/
theorem div_one (f m a : Nat) (hf : f < 4) (h : fitsB f a = true) (hc : Fin0 f a ∨ clsN f a = 3 ∨ clsN f a = 4) : divR f m a (oneN f false) = (a, 0) := by
  obtain ⟨o1, o2, o3, o4⟩ := one_parts f false hf
  have ho : belowN4 (clsN f (oneN f false)) = false := by rw [o2]; rfl
  have hon : nanB (clsN f (oneN f false)) = false ∧ infB (clsN f (oneN f false)) = false ∧ zerB (clsN f (oneN f false)) = false := by rw [o2]; exact ⟨rfl, rfl, rfl⟩
  have h8 : ¬ 8 ≤ clsN f a := by unfold Fin0 at hc; omega
  have hbn := below_neg f a h8
  unfold divR
  rw [hon.1, hon.2.1, hon.2.2, ho, hbn, bne_false]
  rcases hc with hc | hc
  · obtain ⟨e1, e2, e3⟩ := fin_flags f a hc
    obtain ⟨hcan, henc⟩ := can_of f a h hc
    rw [e1, e2, e3]
    simp only [Bool.or_self, Bool.false_eq_true, if_false, Bool.and_self]
    rw [o3, o4]
    obtain ⟨h1, h2, h3, h4, h5, h6, h7, h8'⟩ := formK f hf
    have hl := (lenN_le _ _).2 hcan.lt
    have hlp := lenN_pos _ hcan.pos
    have hlo : lenN (2 ^ (pF f - 1)) = pF f := lenN_unique _ _ (Nat.le_refl _) (Nat.pow_lt_pow_right (by decide) (by omega)) (by omega)
    obtain ⟨k, hk⟩ : ∃ k, divSh f a (oneN f false) = k + (pF f - 1) := ⟨divSh f a (oneN f false) - (pF f - 1), by unfold divSh; rw [o3, hlo]; omega⟩
    rw [hk, Nat.pow_add, ← Nat.mul_assoc, Nat.mul_div_cancel _ (two_pos _), Nat.mul_mod_left, decide_eq_true rfl]
    rw [Bool.not_true, pack_exact f m (sigN f a) _ (xpN f a) _ (negN f a) hf hcan (Or.inl ⟨by omega, by rw [show (xpN f a - (xpN f a - (1 - (pF f : Int)) - ((k + (pF f - 1) : Nat) : Int))).toNat = k by omega]⟩), henc]
  · obtain ⟨e1, e2, e3⟩ := zer_flags f a hc
    rw [e1, e2, e3]
    simp only [Bool.or_self, Bool.false_eq_true, if_false, Bool.and_self, Bool.and_false, Bool.or_true, if_true]
    rw [zero_of f a h hc]
end Go.Proofs.YtdcgcjmajacgiaaDoor
