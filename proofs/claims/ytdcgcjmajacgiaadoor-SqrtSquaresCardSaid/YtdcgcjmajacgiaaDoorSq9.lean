/- SqrtSquares: for every input the law returns true, and each argument reads behind the call as it read before; the listed table is tied to the program's text. -/
import Derived.Test.YtdcgcjmajacgiaaDoorRows
import Derived.Test.YtdcgcjmajacgiaaDoorTie
import Derived.Test.YtdcgcjmajacgiaaDoorCards
import Derived.WalkKit
import Derived.ProofKit
import Derived.LaidMore
import Derived.OpenShut
import Derived.Stop.Joined
import Derived.SevenTiedAt
import Derived.Lib.SmallJoins
import Derived.ChangeOld
import Derived.Below
import Derived.Carry
import Derived.Test.YtdcgcjmajacgiaaDoorSq2
import Derived.Test.YtdcgcjmajacgiaaDoorSq4
import Derived.Test.YtdcgcjmajacgiaaDoorSq8
set_option linter.unusedSimpArgs false
set_option linter.unusedVariables false
set_option linter.unnecessarySimpa false
namespace Go.Proofs.YtdcgcjmajacgiaaDoor
open Go.RowKit
/-- What mul.open answers. -/
theorem mulOpen_any (f m a b : Nat) (hf : f < 256) (hm : m < 256) (ha : a < 2 ^ (64 * 2)) (hb : b < 2 ^ (64 * 2)) :
    ∃ c1 s1 f1 x1 c2 s2 f2 x2, (binOk f m a b = true → c1 = clsN f a ∧ s1 = sigN f a ∧ x1 = xpN f a ∧ f1 = frN f a ∧ c2 = clsN f b ∧ s2 = sigN f b ∧ x2 = xpN f b ∧ f2 = frN f b) ∧
    ∀ (w : World) (g : Nat), Tab w → Blk 27 w g (cat2 (bc a) (bc b)) → Calls Tryd.prog 66 #[.int .u8 f, .int .u8 m, .slice (some ⟨g, 0, none⟩) 2 2] w fun e w' => e = .returned (.tuple #[.agg (tri c1 s1 x1 f1 c2 s2 x2 f2 0 0 0 0), .bool (binOk f m a b)]) ∧ Below w.heap.size w w' := by
  have cM := fun w => shapeCheckMode_any m w hm
  have cF := fun w => shapeCheck_any f w hf
  by_cases hm5 : m < 5
  case neg =>
    have e : binOk f m a b = false := by unfold binOk; rw [decide_eq_false hm5]; simp
    rw [decide_eq_false hm5] at cM
    rw [e]
    exact ⟨0, 0, 0, 0, 0, 0, 0, 0, (fun h => by cases h), fun w g _ hB => mul_open2_mode f m a b w g hB cM⟩
  rw [decide_eq_true hm5] at cM
  by_cases hf4 : f < 4
  case neg =>
    have e : binOk f m a b = false := by unfold binOk; rw [decide_eq_false hf4]; simp
    rw [decide_eq_false hf4] at cF
    rw [e]
    exact ⟨0, 0, 0, 0, 0, 0, 0, 0, (fun h => by cases h), fun w g _ hB => mul_open2_form f m a b w g hB cM cF⟩
  rw [decide_eq_true hf4] at cF
  cases ha' : fitsB f a
  · have e : binOk f m a b = false := by unfold binOk; rw [ha']; simp
    rw [e]
    exact ⟨0, 0, 0, 0, 0, 0, 0, 0, (fun h => by cases h), fun w g hT hB => mul_open2_no0 f m a b w hT g hB cM cF (fun w _ => kindUnpack_not f a w ha ha')⟩
  cases hb' : fitsB f b
  · have e : binOk f m a b = false := by unfold binOk; rw [hb']; simp
    rw [e]
    exact ⟨_, _, _, _, 0, 0, 0, 0, (fun h => by cases h), fun w g hT hB => mul_open2_no1 f m a b w hT g hB cM cF (fun w hT => kindUnpack_yes f a w ha' hT) (fun w _ => kindUnpack_not f b w hb hb')⟩
  have e : binOk f m a b = true := by unfold binOk; rw [ha', hb', decide_eq_true hm5, decide_eq_true hf4]; rfl
  rw [e]
  exact ⟨_, _, _, _, _, _, _, _, fun _ => ⟨rfl, rfl, rfl, rfl, rfl, rfl, rfl, rfl⟩, fun w g hT hB => mul_open2_ok f m a b w hT g hB cM cF (fun w hT => kindUnpack_yes f a w ha' hT) (fun w hT => kindUnpack_yes f b w hb' hT)⟩
theorem mulMul_any (f m a b : Nat) (w : World) (hf : f < 256) (hm : m < 256) (ha : a < 2 ^ (64 * 2)) (hb : b < 2 ^ (64 * 2)) (hT : Tab w) :
    Calls Tryd.prog 26 #[.int .u8 f, .int .u8 m, BV a, BV b] w fun e w' => e = .returned (.tuple #[BV (mulN f m a b).1, .int .u8 ((mulN f m a b).2.1 : Nat), .int .i64 (mulN f m a b).2.2]) ∧ Below w.heap.size w w' := by
  obtain ⟨c1, s1, f1, x1, c2, s2, f2, x2, hv, cO⟩ := mulOpen_any f m a b hf hm ha hb
  cases hok : binOk f m a b
  · have hN : mulN f m a b = (0, 0, 2) := by unfold mulN; rw [hok]; rfl
    rw [hok] at cO
    rw [hN]
    exact mulMul_no f m a b _ _ _ _ _ _ _ _ _ _ _ _ w hT cO
  obtain ⟨rfl, rfl, rfl, rfl, rfl, rfl, rfl, rfl⟩ := hv hok
  have hN : mulN f m a b = ((mulR f m a b).1, (mulR f m a b).2, 0) := by unfold mulN; rw [hok]; rfl
  rw [hN]
  rw [hok] at cO
  obtain ⟨⟨hf4', hm5'⟩, hfa, hfb⟩ : (decide (f < 4) = true ∧ decide (m < 5) = true) ∧ fitsB f a = true ∧ fitsB f b = true := by unfold binOk at hok; simp only [Bool.and_eq_true] at hok; exact hok
  have hf4 := of_decide_eq_true hf4'
  have hm5 := of_decide_eq_true hm5'
  have cb1 := fun w => mul_below (clsN f a) (sigN f a) (frN f a) (xpN f a) w
  have cb2 := fun w => mul_below (clsN f b) (sigN f b) (frN f b) (xpN f b) w
  have cn1 := fun w => mul_nan (clsN f a) (sigN f a) (frN f a) (xpN f a) w
  have cn2 := fun w => mul_nan (clsN f b) (sigN f b) (frN f b) (xpN f b) w
  have ci1 := fun w => mul_inf (clsN f a) (sigN f a) (frN f a) (xpN f a) w
  have ci2 := fun w => mul_inf (clsN f b) (sigN f b) (frN f b) (xpN f b) w
  have cz1 := fun w => mul_nought (clsN f a) (sigN f a) (frN f a) (xpN f a) w
  have cz2 := fun w => mul_nought (clsN f b) (sigN f b) (frN f b) (xpN f b) w
  have cN := fun w => shapeNaN_any f w hf
  have cC := fun w g hB => mul_canon f (clsN f a) (sigN f a) (frN f a) (xpN f a) (clsN f b) (sigN f b) (frN f b) (xpN f b) w g hB cN
  have cI := fun w => shapeInf_any f (!(belowN4 (clsN f a) == belowN4 (clsN f b))) w hf
  have cZ := fun w => shapeZero_any f (!(belowN4 (clsN f a) == belowN4 (clsN f b))) w hf
  have hne : (belowN4 (clsN f a) != belowN4 (clsN f b)) = !(belowN4 (clsN f a) == belowN4 (clsN f b)) := rfl
  unfold mulR canonR
  rw [hne]
  cases h1 : nanB (clsN f a)
  case true =>
    rw [h1] at cn1
    rw [canon_flag] at cC
    exact mulMul_N1 f m a b _ _ _ _ _ _ _ _ 0 0 0 0 _ _ w hT cO cb1 cb2 cn1 _ _ cC
  rw [h1] at cn1
  cases h2 : nanB (clsN f b)
  case true =>
    rw [h2] at cn2
    rw [canon_flag] at cC
    exact mulMul_N2 f m a b _ _ _ _ _ _ _ _ 0 0 0 0 _ _ w hT cO cb1 cb2 cn1 cn2 _ _ cC
  rw [h2] at cn2
  have k1 : ∀ c, infB c = true → zerB c = false := by intro c h; rcases infB_cases c h with rfl | rfl <;> rfl
  cases i1 : infB (clsN f a) <;> cases z1 : zerB (clsN f a) <;> cases i2 : infB (clsN f b) <;> cases z2 : zerB (clsN f b) <;> rw [i1] at ci1 <;> rw [z1] at cz1 <;> rw [i2] at ci2 <;> rw [z2] at cz2
  · (
    obtain ⟨g1, g2⟩ := xpN_bound f a hfa
    obtain ⟨g3, g4⟩ := xpN_bound f b hfb
    have q1 := sigN_113 f a hfa
    have q2 := sigN_113 f b hfb
    have t1 : sigN f a < top6 := lt_pwr top6 113 (64 * 6) _ top6.eq_1 (by decide) q1
    have t2 : sigN f b < top6 := lt_pwr top6 113 (64 * 6) _ top6.eq_1 (by decide) q2
    have t3 : sigN f a * sigN f b < top6 := by
      have : sigN f a * sigN f b < 2 ^ 113 * 2 ^ 113 := Nat.mul_lt_mul'' q1 q2
      rw [← Nat.pow_add] at this
      exact lt_pwr top6 (113 + 113) (64 * 6) _ top6.eq_1 (by decide) this
    have s1 : sigN f a ≠ 0 := by
      intro h0
      have := (sig_zero f a hfa (by intro h; rw [show nanB (clsN f a) = true from decide_eq_true h] at h1; cases h1) (by intro h; rw [show infB (clsN f a) = true by unfold infB; rcases h with h | h <;> rw [h] <;> rfl] at i1; cases i1)).1 h0
      rw [show zerB (clsN f a) = true by unfold zerB; rcases this with h | h <;> rw [h] <;> rfl] at z1; cases z1
    have s2 : sigN f b ≠ 0 := by
      intro h0
      have := (sig_zero f b hfb (by intro h; rw [show nanB (clsN f b) = true from decide_eq_true h] at h2; cases h2) (by intro h; rw [show infB (clsN f b) = true by unfold infB; rcases h with h | h <;> rw [h] <;> rfl] at i2; cases i2)).1 h0
      rw [show zerB (clsN f b) = true by unfold zerB; rcases this with h | h <;> rw [h] <;> rfl] at z2; cases z2
    have s0 : sigN f a * sigN f b ≠ 0 := Nat.mul_ne_zero s1 s2
    have cK := fun w hT => roundPack_any f m (sigN f a * sigN f b) (xpN f a + xpN f b) (!(belowN4 (clsN f a) == belowN4 (clsN f b))) false w hT hf hm t3
    have hP : packN f m (!(belowN4 (clsN f a) == belowN4 (clsN f b))) (sigN f a * sigN f b) (xpN f a + xpN f b) false = ((packB f m (!(belowN4 (clsN f a) == belowN4 (clsN f b))) (sigN f a * sigN f b) (xpN f a + xpN f b) false).1, (packB f m (!(belowN4 (clsN f a) == belowN4 (clsN f b))) (sigN f a * sigN f b) (xpN f a + xpN f b) false).2, 0) := by
      unfold packN packOk
      rw [decide_eq_true hf4, decide_eq_true hm5, decide_eq_true (show -1048576 ≤ xpN f a + xpN f b by omega), decide_eq_true (show xpN f a + xpN f b ≤ 1048576 by omega), if_neg s0]; rfl
    rw [hP] at cK
    exact mulMul_FF f m a b _ _ _ _ _ _ _ _ 0 0 0 0 _ _ w hT cO cb1 cb2 cn1 cn2 ci1 ci2 cz1 cz2 g1 g2 g3 g4 _ _ _ _ _ (fun w => wideMul_any _ _ w t1 t2) cK)
  · exact mulMul_FZ f m a b _ _ _ _ _ _ _ _ 0 0 0 0 _ _ w hT cO cb1 cb2 cn1 cn2 ci1 ci2 cz1 cz2 _ cZ
  · exact mulMul_FI f m a b _ _ _ _ _ _ _ _ 0 0 0 0 _ _ w hT cO cb1 cb2 cn1 cn2 ci1 ci2 cz1 cz2 _ cI
  · exact absurd (k1 _ i2) (by rw [z2]; decide)
  · exact mulMul_ZF f m a b _ _ _ _ _ _ _ _ 0 0 0 0 _ _ w hT cO cb1 cb2 cn1 cn2 ci1 ci2 cz1 cz2 _ cZ
  · exact mulMul_ZZ f m a b _ _ _ _ _ _ _ _ 0 0 0 0 _ _ w hT cO cb1 cb2 cn1 cn2 ci1 ci2 cz1 cz2 _ cZ
  · exact mulMul_ZI f m a b _ _ _ _ _ _ _ _ 0 0 0 0 _ _ w hT cO cb1 cb2 cn1 cn2 ci1 ci2 cz1 cz2 _ cN
  · exact absurd (k1 _ i2) (by rw [z2]; decide)
  · exact mulMul_IF f m a b _ _ _ _ _ _ _ _ 0 0 0 0 _ _ w hT cO cb1 cb2 cn1 cn2 ci1 ci2 cz1 cz2 _ cI
  · exact mulMul_IZ f m a b _ _ _ _ _ _ _ _ 0 0 0 0 _ _ w hT cO cb1 cb2 cn1 cn2 ci1 ci2 cz1 cz2 _ cN
  · exact mulMul_II f m a b _ _ _ _ _ _ _ _ 0 0 0 0 _ _ w hT cO cb1 cb2 cn1 cn2 ci1 ci2 cz1 cz2 _ cI
  · exact absurd (k1 _ i2) (by rw [z2]; decide)
  · exact absurd (k1 _ i1) (by rw [z1]; decide)
  · exact absurd (k1 _ i1) (by rw [z1]; decide)
  · exact absurd (k1 _ i1) (by rw [z1]; decide)
  · exact absurd (k1 _ i1) (by rw [z1]; decide)
end Go.Proofs.YtdcgcjmajacgiaaDoor

namespace Go.Proofs.YtdcgcjmajacgiaaDoor
open Go.RowKit
theorem run_eq_bits (x y : Nat) (w : World) : (Op.equalIn 10000 27 (.agg #[.int .u64 (limb x 1), .int .u64 (limb x 0)]) (.agg #[.int .u64 (limb y 1), .int .u64 (limb y 0)])).run Tryd.prog w = .ok (limb x 1 == limb y 1 && limb x 0 == limb y 0) w := by
  go_simp
  by_cases h1 : limb x 1 = limb y 1 <;> by_cases h0 : limb x 0 = limb y 0 <;> simp [h1, h0]
theorem bits_diff (x y : Nat) (hx : x < 2 ^ (64 * 2)) (hy : y < 2 ^ (64 * 2)) (h : x ≠ y) : (limb x 1 == limb y 1 && limb x 0 == limb y 0) = false := by
  rw [Bool.eq_false_iff]
  intro hb
  simp only [Bool.and_eq_true, beq_iff_eq] at hb
  rw [limb1, limb1, limb0, limb0] at hb
  rw [show 2 ^ (64 * 2) = 340282366920938463463374607431768211456 from rfl] at hx hy
  omega
end Go.Proofs.YtdcgcjmajacgiaaDoor

namespace Go.Proofs.YtdcgcjmajacgiaaDoor
open Go.RowKit
set_option maxHeartbeats 1600000 in
set_option maxRecDepth 100000 in
theorem sqrtAlive_w (w : World) (hT : Tab w) (cA : ∀ w, Tab w → Calls Tryd.prog 28 #[.int .u8 2, .int .u8 0, .agg #[.int .u64 0, .int .u64 17408]] w fun e w' => e = .returned (.tuple #[.agg #[.int .u64 0, .int .u64 16384], .int .u8 0, .int .i64 0]) ∧ Below w.heap.size w w') :
    Calls Tryd.prog 27 #[] w fun e w' => e = .returned (.bool true) ∧ Below w.heap.size w w' := by
  have H := Own.start w
  have HT := Lib.hid hT
  clear hT
  go_enter Tryd.func27, Tryd.ntmps27
  go_wp2_with (first
    | ((with_reducible show wpList _ _ _ (⟨_, .box _ _, _, _, _, _⟩ :: _) _ _); refine H.box rfl rfl (cells_agg _) ?_; (intro g w H; simp only [Act.put, List.setIfInBounds_toArray, List.set_cons_zero, List.set_cons_succ]))
    | ((with_reducible show wpList _ _ _ (⟨_, .alloc 27, _, _, _, _⟩ :: _) _ _); refine H.mk0 rfl rB rfl ?_; (intro g w H; simp only [Act.put, List.setIfInBounds_toArray, List.set_cons_zero, List.set_cons_succ]))
    | ((with_reducible show wpList _ _ _ (⟨_, .load 27 _, _, _, _, _⟩ :: _) _ _); refine H.ld rfl rB rfl rfl (by repeat (first | with_reducible exact List.mem_cons_self | apply List.mem_cons_of_mem)) (by first | with_reducible exact ext_2 _ _) (by rfl) ?_; simp only [Act.put, List.setIfInBounds_toArray, List.set_cons_zero, List.set_cons_succ])
    | ((with_reducible show wpList _ _ _ (⟨_, .store 27 _ _, _, _, _, _⟩ :: _) _ _); refine H.st rfl rB rfl rfl (cells_agg _) (by repeat (first | with_reducible exact Upd.head _ | apply Upd.tail)) (set_bits _ _ _ _) (by rfl) (by exact one_of rfl) (by first | exact ble_le rfl | (change _ + 1 ≤ 12; omega) | (change _ + 1 ≤ 6; omega)) ?_; (intro w H; simp only [Act.put]))
    | (go_at_call 28; ((with_reducible refine (cA _ (HT.out.below H.below)).mono ?_); rintro e w ⟨rfl, hb⟩; replace H := H.call hb; clear hb))
    )
  all_goals
    go_ret
    exact ⟨rfl, H.below⟩
theorem sqrt_two : sqrtN 2 0 17408 = (16384, 0, 0) := by
  have hc : clsN 2 17408 = 6 := by decide +kernel
  have hs : sigN 2 17408 = 1024 := by decide +kernel
  have hx : xpN 2 17408 = -8 := by decide +kernel
  have hsh : sqrSh 2 17408 = 18 := by unfold sqrSh sqrSh0; rw [hs, hx]; decide +kernel
  have hi : isq (1024 * 2 ^ 18) = 16384 := isq_unique _ _ (by decide) (by decide)
  have hok : unOk 2 0 17408 = true := by decide +kernel
  unfold sqrtN sqrtR
  rw [hok, hc, hs, hx, hsh, hi]
  decide +kernel
theorem sqrtAlive_any (w : World) (hT : Tab w) : Calls Tryd.prog 27 #[] w fun e w' => e = .returned (.bool true) ∧ Below w.heap.size w w' := by
  refine sqrtAlive_w w hT fun w hT => ?_
  have := sqrtSqrt_any 2 0 17408 w (by decide) (by decide) (by decide) hT
  rw [sqrt_two] at this
  exact this
theorem walk6 {P : Prop} (h : P := by
  go_wp2_with (first
    | ((with_reducible show wpList _ _ _ (⟨_, .box _ _, _, _, _, _⟩ :: _) _ _); refine H.box rfl rfl (cells_agg _) ?_; (intro g w H; simp only [Act.put, List.setIfInBounds_toArray, List.set_cons_zero, List.set_cons_succ]))
    | ((with_reducible show wpList _ _ _ (⟨_, .alloc 27, _, _, _, _⟩ :: _) _ _); refine H.mk0 rfl rB rfl ?_; (intro g w H; simp only [Act.put, List.setIfInBounds_toArray, List.set_cons_zero, List.set_cons_succ]))
    | ((with_reducible show wpList _ _ _ (⟨_, .load 27 _, _, _, _, _⟩ :: _) _ _); refine H.ld rfl rB rfl rfl (by repeat (first | with_reducible exact List.mem_cons_self | apply List.mem_cons_of_mem)) (by first | with_reducible exact ext_2 _ _) (by rfl) ?_; simp only [Act.put, List.setIfInBounds_toArray, List.set_cons_zero, List.set_cons_succ])
    | ((with_reducible show wpList _ _ _ (⟨_, .store 27 _ _, _, _, _, _⟩ :: _) _ _); refine H.st rfl rB rfl rfl (cells_agg _) (by repeat (first | with_reducible exact Upd.head _ | apply Upd.tail)) (set_bits _ _ _ _) (by rfl) (by exact one_of rfl) (by first | exact ble_le rfl | (change _ + 1 ≤ 12; omega) | (change _ + 1 ≤ 6; omega)) ?_; (intro w H; simp only [Act.put]))
    | ((with_reducible show Code.wp _ (.region 2 _ true) _ _ _); refine H.heldSub rfl (List.Sublist.refl _) ?_; intro H; refine H.takeRun (by repeat (first | with_reducible exact List.Sublist.refl _ | with_reducible apply List.Sublist.cons_cons | with_reducible apply List.Sublist.cons)) 0 rfl (by kernel_rfl) (by kernel_rfl) (by kernel_rfl) (fun _ _ _ _ h => h) rfl (by intro w; go_simp; (try with_reducible rfl)) ?_; (try simp only [Act.put, List.setIfInBounds_toArray, List.set_cons_zero, List.set_cons_succ]); (try simp only [List.getElem_toArray, List.getElem_cons_zero, List.getElem_cons_succ]); refine H.takeRun (by repeat (first | with_reducible exact List.Sublist.refl _ | with_reducible apply List.Sublist.cons_cons | with_reducible apply List.Sublist.cons)) 1 rfl (by kernel_rfl) (by kernel_rfl) (by kernel_rfl) (fun _ _ _ _ h => h) rfl (by intro w; go_simp; (try with_reducible rfl)) ?_; (try simp only [Act.put, List.setIfInBounds_toArray, List.set_cons_zero, List.set_cons_succ]); (try simp only [List.getElem_toArray, List.getElem_cons_zero, List.getElem_cons_succ]); refine H.takeRun (by repeat (first | with_reducible exact List.Sublist.refl _ | with_reducible apply List.Sublist.cons_cons | with_reducible apply List.Sublist.cons)) 2 rfl (by kernel_rfl) (by kernel_rfl) (by kernel_rfl) (fun _ _ _ _ h => h) rfl (by intro w; go_simp; (try with_reducible rfl)) ?_; (try simp only [Act.put, List.setIfInBounds_toArray, List.set_cons_zero, List.set_cons_succ]); (try simp only [List.getElem_toArray, List.getElem_cons_zero, List.getElem_cons_succ]); (first | refine H.takeRun (by repeat (first | with_reducible exact List.Sublist.refl _ | with_reducible apply List.Sublist.cons_cons | with_reducible apply List.Sublist.cons)) 3 rfl (by kernel_rfl) (by kernel_rfl) (by kernel_rfl) (fun _ _ _ _ h => h) rfl (by intro w; go_simp; (try with_reducible rfl)) ?_ | refine H.takeOff (by repeat (first | with_reducible exact List.Sublist.refl _ | with_reducible apply List.Sublist.cons_cons | with_reducible apply List.Sublist.cons)) 3 rfl (by kernel_rfl) (by kernel_rfl) (by kernel_rfl) (fun _ _ _ _ h => h) rfl ?_); (try simp only [Act.put, List.setIfInBounds_toArray, List.set_cons_zero, List.set_cons_succ]); (try simp only [List.getElem_toArray, List.getElem_cons_zero, List.getElem_cons_succ]); (first | refine H.takeRun (by repeat (first | with_reducible exact List.Sublist.refl _ | with_reducible apply List.Sublist.cons_cons | with_reducible apply List.Sublist.cons)) 4 rfl (by kernel_rfl) (by kernel_rfl) (by kernel_rfl) (fun _ _ _ _ h => h) rfl (by intro w; go_simp; (try rw [hfl]); (try with_reducible rfl)) ?_ | refine H.takeOff (by repeat (first | with_reducible exact List.Sublist.refl _ | with_reducible apply List.Sublist.cons_cons | with_reducible apply List.Sublist.cons)) 4 rfl (by kernel_rfl) (by kernel_rfl) (by kernel_rfl) (fun _ _ _ _ h => h) rfl ?_); (try simp only [Act.put, List.setIfInBounds_toArray, List.set_cons_zero, List.set_cons_succ]); (try simp only [List.getElem_toArray, List.getElem_cons_zero, List.getElem_cons_succ]); refine H.takeRun (by repeat (first | with_reducible exact List.Sublist.refl _ | with_reducible apply List.Sublist.cons_cons | with_reducible apply List.Sublist.cons)) 5 rfl (by kernel_rfl) (by kernel_rfl) (by kernel_rfl) (fun _ _ _ _ h => h) rfl (by intro w; go_simp; (try with_reducible rfl)) ?_; (try simp only [Act.put, List.setIfInBounds_toArray, List.set_cons_zero, List.set_cons_succ]); (try simp only [List.getElem_toArray, List.getElem_cons_zero, List.getElem_cons_succ]); refine H.takeRun (by repeat (first | with_reducible exact List.Sublist.refl _ | with_reducible apply List.Sublist.cons_cons | with_reducible apply List.Sublist.cons)) 6 rfl (by kernel_rfl) (by kernel_rfl) (by kernel_rfl) (fun _ _ _ _ h => h) rfl (by intro w; go_simp; (try with_reducible rfl)) ?_; (try simp only [Act.put, List.setIfInBounds_toArray, List.set_cons_zero, List.set_cons_succ]); (try simp only [List.getElem_toArray, List.getElem_cons_zero, List.getElem_cons_succ]); (first | refine H.tk (by repeat (first | with_reducible exact List.Sublist.refl _ | with_reducible apply List.Sublist.cons_cons | with_reducible apply List.Sublist.cons)) 7 rfl (by kernel_rfl) (by kernel_rfl) (by kernel_rfl) (fun _ _ _ _ h => h) rfl rB rfl rfl (by repeat (first | with_reducible exact List.mem_cons_self | apply List.mem_cons_of_mem)) (by first | with_reducible exact ext_2 _ _) (by rfl) ?_ | refine H.takeOff (by repeat (first | with_reducible exact List.Sublist.refl _ | with_reducible apply List.Sublist.cons_cons | with_reducible apply List.Sublist.cons)) 7 rfl (by kernel_rfl) (by kernel_rfl) (by kernel_rfl) (fun _ _ _ _ h => h) rfl ?_); (try simp only [Act.put, List.setIfInBounds_toArray, List.set_cons_zero, List.set_cons_succ]); (try simp only [List.getElem_toArray, List.getElem_cons_zero, List.getElem_cons_succ]); (first | refine H.takeRun (by repeat (first | with_reducible exact List.Sublist.refl _ | with_reducible apply List.Sublist.cons_cons | with_reducible apply List.Sublist.cons)) 8 rfl (by kernel_rfl) (by kernel_rfl) (by kernel_rfl) (fun _ _ _ _ h => h) rfl (by intro w; go_simp; (try with_reducible rfl)) ?_ | refine H.takeOff (by repeat (first | with_reducible exact List.Sublist.refl _ | with_reducible apply List.Sublist.cons_cons | with_reducible apply List.Sublist.cons)) 8 rfl (by kernel_rfl) (by kernel_rfl) (by kernel_rfl) (fun _ _ _ _ h => h) rfl ?_); (try simp only [Act.put, List.setIfInBounds_toArray, List.set_cons_zero, List.set_cons_succ]); (try simp only [List.getElem_toArray, List.getElem_cons_zero, List.getElem_cons_succ]); refine H.takeOff (by repeat (first | with_reducible exact List.Sublist.refl _ | with_reducible apply List.Sublist.cons_cons | with_reducible apply List.Sublist.cons)) 9 rfl (by kernel_rfl) (by kernel_rfl) (by kernel_rfl) (fun _ _ _ _ h => h) rfl ?_; (try simp only [Act.put, List.setIfInBounds_toArray, List.set_cons_zero, List.set_cons_succ]); (try simp only [List.getElem_toArray, List.getElem_cons_zero, List.getElem_cons_succ]); (first | refine H.takeRun (by repeat (first | with_reducible exact List.Sublist.refl _ | with_reducible apply List.Sublist.cons_cons | with_reducible apply List.Sublist.cons)) 10 rfl (by kernel_rfl) (by kernel_rfl) (by kernel_rfl) (fun _ _ _ _ h => h) rfl (by intro w; go_simp; (try with_reducible rfl)) ?_ | refine H.takeOff (by repeat (first | with_reducible exact List.Sublist.refl _ | with_reducible apply List.Sublist.cons_cons | with_reducible apply List.Sublist.cons)) 10 rfl (by kernel_rfl) (by kernel_rfl) (by kernel_rfl) (fun _ _ _ _ h => h) rfl ?_); (try simp only [Act.put, List.setIfInBounds_toArray, List.set_cons_zero, List.set_cons_succ]); (try simp only [List.getElem_toArray, List.getElem_cons_zero, List.getElem_cons_succ]); refine H.takeRun (by repeat (first | with_reducible exact List.Sublist.refl _ | with_reducible apply List.Sublist.cons_cons | with_reducible apply List.Sublist.cons)) 11 rfl (by kernel_rfl) (by kernel_rfl) (by kernel_rfl) (fun _ _ _ _ h => h) rfl (by intro w; go_simp; (try with_reducible rfl)) ?_; (try simp only [Act.put, List.setIfInBounds_toArray, List.set_cons_zero, List.set_cons_succ]); (try simp only [List.getElem_toArray, List.getElem_cons_zero, List.getElem_cons_succ]); refine wpAnyH_done (by kernel_rfl) ?_ _)
    | ((with_reducible show Code.wp _ (.region 2 _ true) _ _ _); refine H.heldSub rfl (List.Sublist.refl _) ?_; intro H; refine H.takeRun (by repeat (first | with_reducible exact List.Sublist.refl _ | with_reducible apply List.Sublist.cons_cons | with_reducible apply List.Sublist.cons)) 0 rfl (by kernel_rfl) (by kernel_rfl) (by kernel_rfl) (fun _ _ _ _ h => h) rfl (by intro w; go_simp; (try with_reducible rfl)) ?_; (try simp only [Act.put, List.setIfInBounds_toArray, List.set_cons_zero, List.set_cons_succ]); (try simp only [List.getElem_toArray, List.getElem_cons_zero, List.getElem_cons_succ]); refine H.takeRun (by repeat (first | with_reducible exact List.Sublist.refl _ | with_reducible apply List.Sublist.cons_cons | with_reducible apply List.Sublist.cons)) 1 rfl (by kernel_rfl) (by kernel_rfl) (by kernel_rfl) (fun _ _ _ _ h => h) rfl (by intro w; go_simp; (try with_reducible rfl)) ?_; (try simp only [Act.put, List.setIfInBounds_toArray, List.set_cons_zero, List.set_cons_succ]); (try simp only [List.getElem_toArray, List.getElem_cons_zero, List.getElem_cons_succ]); refine H.takeRun (by repeat (first | with_reducible exact List.Sublist.refl _ | with_reducible apply List.Sublist.cons_cons | with_reducible apply List.Sublist.cons)) 2 rfl (by kernel_rfl) (by kernel_rfl) (by kernel_rfl) (fun _ _ _ _ h => h) rfl (by intro w; go_simp; (try with_reducible rfl)) ?_; (try simp only [Act.put, List.setIfInBounds_toArray, List.set_cons_zero, List.set_cons_succ]); (try simp only [List.getElem_toArray, List.getElem_cons_zero, List.getElem_cons_succ]); (first | refine H.takeRun (by repeat (first | with_reducible exact List.Sublist.refl _ | with_reducible apply List.Sublist.cons_cons | with_reducible apply List.Sublist.cons)) 3 rfl (by kernel_rfl) (by kernel_rfl) (by kernel_rfl) (fun _ _ _ _ h => h) rfl (by intro w; go_simp; (try with_reducible rfl)) ?_ | refine H.takeOff (by repeat (first | with_reducible exact List.Sublist.refl _ | with_reducible apply List.Sublist.cons_cons | with_reducible apply List.Sublist.cons)) 3 rfl (by kernel_rfl) (by kernel_rfl) (by kernel_rfl) (fun _ _ _ _ h => h) rfl ?_); (try simp only [Act.put, List.setIfInBounds_toArray, List.set_cons_zero, List.set_cons_succ]); (try simp only [List.getElem_toArray, List.getElem_cons_zero, List.getElem_cons_succ]); (first | refine H.takeRun (by repeat (first | with_reducible exact List.Sublist.refl _ | with_reducible apply List.Sublist.cons_cons | with_reducible apply List.Sublist.cons)) 4 rfl (by kernel_rfl) (by kernel_rfl) (by kernel_rfl) (fun _ _ _ _ h => h) rfl (by intro w; go_simp; (try with_reducible rfl)) ?_ | refine H.takeOff (by repeat (first | with_reducible exact List.Sublist.refl _ | with_reducible apply List.Sublist.cons_cons | with_reducible apply List.Sublist.cons)) 4 rfl (by kernel_rfl) (by kernel_rfl) (by kernel_rfl) (fun _ _ _ _ h => h) rfl ?_); (try simp only [Act.put, List.setIfInBounds_toArray, List.set_cons_zero, List.set_cons_succ]); (try simp only [List.getElem_toArray, List.getElem_cons_zero, List.getElem_cons_succ]); refine H.takeRun (by repeat (first | with_reducible exact List.Sublist.refl _ | with_reducible apply List.Sublist.cons_cons | with_reducible apply List.Sublist.cons)) 5 rfl (by kernel_rfl) (by kernel_rfl) (by kernel_rfl) (fun _ _ _ _ h => h) rfl (by intro w; go_simp; (try with_reducible rfl)) ?_; (try simp only [Act.put, List.setIfInBounds_toArray, List.set_cons_zero, List.set_cons_succ]); (try simp only [List.getElem_toArray, List.getElem_cons_zero, List.getElem_cons_succ]); refine H.takeRun (by repeat (first | with_reducible exact List.Sublist.refl _ | with_reducible apply List.Sublist.cons_cons | with_reducible apply List.Sublist.cons)) 6 rfl (by kernel_rfl) (by kernel_rfl) (by kernel_rfl) (fun _ _ _ _ h => h) rfl (by intro w; go_simp; (try with_reducible rfl)) ?_; (try simp only [Act.put, List.setIfInBounds_toArray, List.set_cons_zero, List.set_cons_succ]); (try simp only [List.getElem_toArray, List.getElem_cons_zero, List.getElem_cons_succ]); (first | refine H.tk (by repeat (first | with_reducible exact List.Sublist.refl _ | with_reducible apply List.Sublist.cons_cons | with_reducible apply List.Sublist.cons)) 7 rfl (by kernel_rfl) (by kernel_rfl) (by kernel_rfl) (fun _ _ _ _ h => h) rfl rB rfl rfl (by repeat (first | with_reducible exact List.mem_cons_self | apply List.mem_cons_of_mem)) (by first | with_reducible exact ext_2 _ _) (by rfl) ?_ | refine H.takeOff (by repeat (first | with_reducible exact List.Sublist.refl _ | with_reducible apply List.Sublist.cons_cons | with_reducible apply List.Sublist.cons)) 7 rfl (by kernel_rfl) (by kernel_rfl) (by kernel_rfl) (fun _ _ _ _ h => h) rfl ?_); (try simp only [Act.put, List.setIfInBounds_toArray, List.set_cons_zero, List.set_cons_succ]); (try simp only [List.getElem_toArray, List.getElem_cons_zero, List.getElem_cons_succ]); (first | refine H.takeRun (by repeat (first | with_reducible exact List.Sublist.refl _ | with_reducible apply List.Sublist.cons_cons | with_reducible apply List.Sublist.cons)) 8 rfl (by kernel_rfl) (by kernel_rfl) (by kernel_rfl) (fun _ _ _ _ h => h) rfl (by intro w; go_simp; (try with_reducible rfl)) ?_ | refine H.takeOff (by repeat (first | with_reducible exact List.Sublist.refl _ | with_reducible apply List.Sublist.cons_cons | with_reducible apply List.Sublist.cons)) 8 rfl (by kernel_rfl) (by kernel_rfl) (by kernel_rfl) (fun _ _ _ _ h => h) rfl ?_); (try simp only [Act.put, List.setIfInBounds_toArray, List.set_cons_zero, List.set_cons_succ]); (try simp only [List.getElem_toArray, List.getElem_cons_zero, List.getElem_cons_succ]); refine held_one (i := 9) (by kernel_rfl) rfl rfl ?_; unfold Oper.wp; go_simp; (go_at_call 24; ((with_reducible refine (cN _).mono ?_); rintro e w ⟨rfl, hb⟩; replace H := H.call hb; clear hb)); refine H.next (by repeat (first | with_reducible exact List.Sublist.refl _ | with_reducible apply List.Sublist.cons_cons | with_reducible apply List.Sublist.cons)) ?_; (try simp only [Act.put, List.setIfInBounds_toArray, List.set_cons_zero, List.set_cons_succ]); (try simp only [List.getElem_toArray, List.getElem_cons_zero, List.getElem_cons_succ]); (first | refine H.takeRun (by repeat (first | with_reducible exact List.Sublist.refl _ | with_reducible apply List.Sublist.cons_cons | with_reducible apply List.Sublist.cons)) 10 rfl (by kernel_rfl) (by kernel_rfl) (by kernel_rfl) (fun _ _ _ _ h => h) rfl (by intro w; go_simp; (try with_reducible rfl)) ?_ | refine H.takeOff (by repeat (first | with_reducible exact List.Sublist.refl _ | with_reducible apply List.Sublist.cons_cons | with_reducible apply List.Sublist.cons)) 10 rfl (by kernel_rfl) (by kernel_rfl) (by kernel_rfl) (fun _ _ _ _ h => h) rfl ?_); (try simp only [Act.put, List.setIfInBounds_toArray, List.set_cons_zero, List.set_cons_succ]); (try simp only [List.getElem_toArray, List.getElem_cons_zero, List.getElem_cons_succ]); refine H.takeRun (by repeat (first | with_reducible exact List.Sublist.refl _ | with_reducible apply List.Sublist.cons_cons | with_reducible apply List.Sublist.cons)) 11 rfl (by kernel_rfl) (by kernel_rfl) (by kernel_rfl) (fun _ _ _ _ h => h) rfl (by intro w; go_simp; (try with_reducible rfl)) ?_; (try simp only [Act.put, List.setIfInBounds_toArray, List.set_cons_zero, List.set_cons_succ]); (try simp only [List.getElem_toArray, List.getElem_cons_zero, List.getElem_cons_succ]); refine wpAnyH_done (by kernel_rfl) ?_ _)
    | (go_at_call 26; ((with_reducible refine (cA _ (HT.out.below H.below)).mono ?_); rintro e w ⟨rfl, hb⟩; replace H := H.call hb; clear hb))
    | (go_at_call 27; ((with_reducible refine (sqrtAlive_any _ (HT.out.below H.below)).mono ?_); rintro e w ⟨rfl, hb⟩; replace H := H.call hb; clear hb))
    | (go_at_call 28; ((with_reducible refine (cQ _ (HT.out.below H.below)).mono ?_); rintro e w ⟨rfl, hb⟩; replace H := H.call hb; clear hb))
    | (go_at_call 13; ((with_reducible refine (cS _).mono ?_); rintro e w ⟨rfl, hb⟩; replace H := H.call hb; clear hb))
    | (go_at_call 29; ((with_reducible refine (cF _).mono ?_); rintro e w ⟨rfl, hb⟩; replace H := H.call hb; clear hb))
    )
  all_goals (go_ret; exact ⟨rfl, H.below⟩)) : P := h
set_option maxHeartbeats 1600000 in
set_option maxRecDepth 100000 in
theorem sqrtSq_bad (f m a x : Nat) (w : World) (hT : Tab w) (fl : Int) (cA : ∀ w, Tab w → Calls Tryd.prog 26 #[.int .u8 f, .int .u8 m, BV a, BV a] w fun e w' => e = .returned (.tuple #[BV x, .int .u8 fl, .int .i64 2]) ∧ Below w.heap.size w w')  :
    Calls Tryd.prog 6 #[.int .u8 f, .int .u8 m, BV a] w fun e w' => e = .returned (.bool true) ∧ Below w.heap.size w w' := by
  have H := Own.start w
  have HT := Lib.hid hT
  clear hT
  go_enter Tryd.func6, Tryd.ntmps6
  exact walk6
set_option maxHeartbeats 1600000 in
set_option maxRecDepth 100000 in
theorem sqrtSq_flag (f m a x : Nat) (w : World) (hT : Tab w) (fl : Nat) (hfl : ((fl : Int) != 0) = true) (cA : ∀ w, Tab w → Calls Tryd.prog 26 #[.int .u8 f, .int .u8 m, BV a, BV a] w fun e w' => e = .returned (.tuple #[BV x, .int .u8 (fl : Nat), .int .i64 0]) ∧ Below w.heap.size w w')  :
    Calls Tryd.prog 6 #[.int .u8 f, .int .u8 m, BV a] w fun e w' => e = .returned (.bool true) ∧ Below w.heap.size w w' := by
  have H := Own.start w
  have HT := Lib.hid hT
  clear hT
  go_enter Tryd.func6, Tryd.ntmps6
  exact walk6
set_option maxHeartbeats 1600000 in
set_option maxRecDepth 100000 in
theorem sqrtSq_nan (f m a x : Nat) (w : World) (hT : Tab w) (cA : ∀ w, Tab w → Calls Tryd.prog 26 #[.int .u8 f, .int .u8 m, BV a, BV a] w fun e w' => e = .returned (.tuple #[BV x, .int .u8 0, .int .i64 0]) ∧ Below w.heap.size w w') (cN : ∀ w, Calls Tryd.prog 24 #[.int .u8 f] w fun e w' => e = .returned (BV x) ∧ Below w.heap.size w w') :
    Calls Tryd.prog 6 #[.int .u8 f, .int .u8 m, BV a] w fun e w' => e = .returned (.bool true) ∧ Below w.heap.size w w' := by
  have H := Own.start w
  have HT := Lib.hid hT
  clear hT
  go_enter Tryd.func6, Tryd.ntmps6
  exact walk6
set_option maxHeartbeats 1600000 in
set_option maxRecDepth 100000 in
theorem sqrtSq_good_true (f m a x : Nat) (w : World) (hT : Tab w) (n z : Nat) (hne : (limb x 1 == limb n 1 && limb x 0 == limb n 0) = false) (cA : ∀ w, Tab w → Calls Tryd.prog 26 #[.int .u8 f, .int .u8 m, BV a, BV a] w fun e w' => e = .returned (.tuple #[BV x, .int .u8 0, .int .i64 0]) ∧ Below w.heap.size w w') (cN : ∀ w, Calls Tryd.prog 24 #[.int .u8 f] w fun e w' => e = .returned (BV n) ∧ Below w.heap.size w w') (cQ : ∀ w, Tab w → Calls Tryd.prog 28 #[.int .u8 f, .int .u8 m, BV x] w fun e w' => e = .returned (.tuple #[BV z, .int .u8 0, .int .i64 0]) ∧ Below w.heap.size w w') (cS : ∀ w, Calls Tryd.prog 13 #[.int .u8 f, BV a] w fun e w' => e = .returned (.bool true) ∧ Below w.heap.size w w') (cF : ∀ w, Calls Tryd.prog 29 #[.int .u8 f, BV a] w fun e w' => e = .returned (BV z) ∧ Below w.heap.size w w') :
    Calls Tryd.prog 6 #[.int .u8 f, .int .u8 m, BV a] w fun e w' => e = .returned (.bool true) ∧ Below w.heap.size w w' := by
  have H := Own.start w
  have HT := Lib.hid hT
  clear hT
  have eq1 : ∀ w, (Op.equalIn 10000 27 (.agg #[.int .u64 (limb x 1), .int .u64 (limb x 0)]) (.agg #[.int .u64 (limb n 1), .int .u64 (limb n 0)])).run Tryd.prog w = .ok false w := fun w => (run_eq_bits x n w).trans (by rw [hne])
  go_enter Tryd.func6, Tryd.ntmps6
  exact walk6
set_option maxHeartbeats 1600000 in
set_option maxRecDepth 100000 in
theorem sqrtSq_good_false (f m a x : Nat) (w : World) (hT : Tab w) (n z : Nat) (hne : (limb x 1 == limb n 1 && limb x 0 == limb n 0) = false) (cA : ∀ w, Tab w → Calls Tryd.prog 26 #[.int .u8 f, .int .u8 m, BV a, BV a] w fun e w' => e = .returned (.tuple #[BV x, .int .u8 0, .int .i64 0]) ∧ Below w.heap.size w w') (cN : ∀ w, Calls Tryd.prog 24 #[.int .u8 f] w fun e w' => e = .returned (BV n) ∧ Below w.heap.size w w') (cQ : ∀ w, Tab w → Calls Tryd.prog 28 #[.int .u8 f, .int .u8 m, BV x] w fun e w' => e = .returned (.tuple #[BV a, .int .u8 0, .int .i64 0]) ∧ Below w.heap.size w w') (cS : ∀ w, Calls Tryd.prog 13 #[.int .u8 f, BV a] w fun e w' => e = .returned (.bool false) ∧ Below w.heap.size w w') (cF : ∀ w, Calls Tryd.prog 29 #[.int .u8 f, BV a] w fun e w' => e = .returned (BV z) ∧ Below w.heap.size w w') :
    Calls Tryd.prog 6 #[.int .u8 f, .int .u8 m, BV a] w fun e w' => e = .returned (.bool true) ∧ Below w.heap.size w w' := by
  have H := Own.start w
  have HT := Lib.hid hT
  clear hT
  have eq1 : ∀ w, (Op.equalIn 10000 27 (.agg #[.int .u64 (limb x 1), .int .u64 (limb x 0)]) (.agg #[.int .u64 (limb n 1), .int .u64 (limb n 0)])).run Tryd.prog w = .ok false w := fun w => (run_eq_bits x n w).trans (by rw [hne])
  go_enter Tryd.func6, Tryd.ntmps6
  exact walk6
theorem sqrtSquares_any (f m a : Nat) (w : World) (hf : f < 256) (hm : m < 256) (ha : a < 2 ^ (64 * 2)) (hT : Tab w) :
    Calls Tryd.prog 6 #[.int .u8 f, .int .u8 m, BV a] w fun e w' => e = .returned (.bool true) ∧ Below w.heap.size w w' := by
  have cA := fun w hT => mulMul_any f m a a w hf hm ha ha hT
  have cN := fun w => shapeNaN_any f w hf
  cases hok : binOk f m a a
  · have hN : mulN f m a a = (0, 0, 2) := by unfold mulN; rw [hok]; rfl
    rw [hN] at cA
    exact sqrtSq_bad f m a _ w hT _ cA
  obtain ⟨⟨hf4', hm5'⟩, hfa, -⟩ : (decide (f < 4) = true ∧ decide (m < 5) = true) ∧ fitsB f a = true ∧ fitsB f a = true := by unfold binOk at hok; simp only [Bool.and_eq_true] at hok; exact hok
  have hf4 := of_decide_eq_true hf4'
  have hN : mulN f m a a = ((mulR f m a a).1, (mulR f m a a).2, 0) := by unfold mulN; rw [hok]; rfl
  rw [hN] at cA
  by_cases hfl : (mulR f m a a).2 = 0
  case neg => exact sqrtSq_flag f m a _ w hT _ (by unfold bne; rw [show ((((mulR f m a a).2 : Nat) : Int) == 0) = false from (cast_beq _ 0).trans (decide_eq_false hfl)]; rfl) cA
  by_cases hn : (mulR f m a a).1 = nanN f
  case pos =>
    simp only [hfl, hn] at cA
    exact sqrtSq_nan f m a _ w hT cA cN
  obtain ⟨h1, h2⟩ := sqrt_square f m a hf4 hfa hfl hn
  have hxb := below_fits f _ h1
  have hnb : nanN f < 2 ^ (64 * 2) := by
    have : f = 0 ∨ f = 1 ∨ f = 2 ∨ f = 3 := by omega
    rcases this with rfl | rfl | rfl | rfl <;> decide +kernel
  have cQ := fun w hT => sqrtSqrt_any f m (mulR f m a a).1 w hf hm hxb hT
  have hQ : sqrtN f m (mulR f m a a).1 = (absN f a, 0, 0) := by
    have hu : unOk f m (mulR f m a a).1 = true := by unfold unOk; rw [hf4', hm5', h1]; rfl
    unfold sqrtN; rw [hu, h2]; rfl
  rw [hQ] at cQ
  have cS := fun w => kindSign_any f a w hf ha
  have cF := fun w => kindFlip_any f a w hf ha
  rw [hfa, Bool.true_and] at cS
  have hne := bits_diff _ _ hxb hnb hn
  simp only [hfl] at cA
  unfold absN at cQ
  cases hs : negN f a
  · rw [hs] at cS cQ
    exact sqrtSq_good_false f m a _ w hT _ _ hne cA cN cQ cS cF
  · rw [hs] at cS cQ
    exact sqrtSq_good_true f m a _ w hT _ _ hne cA cN cQ cS cF
end Go.Proofs.YtdcgcjmajacgiaaDoor

namespace Go.Proofs.YtdcgcjmajacgiaaDoor
open Go.ChangeShapes Go.WideShapes Go.ChangeAt Go.RowKit
theorem own : ownKnob Tryd.prog.godebug = none := by kernel_rfl
theorem laidOut : laidOutB Tryd.prog = true := by kernel_rfl
/-- What every row of this seat lists. -/
def laidL : List (String × DataW Unit) := [("math/bits.deBruijn64tab", Rows.laid_math_bits_deBruijn64tab)]
theorem gTab : Tryd.prog.globalNamed "math/bits.deBruijn64tab" = some 0 := by kernel_rfl
theorem tTab : (Tryd.prog.globals[0]?).map (·.type) = some 131 := by kernel_rfl
theorem ren1 : Tryd.lays29_ren.g 1 = 0 := rfl
set_option maxRecDepth 100000 in
theorem door_met (os : Os) (args : Array Value) : laidMetH Tryd.prog laidL ((World.doorLaid Tryd.prog 400 os).forCall (fun _ _ => 0) ⟨#[], args, []⟩).memory :=
  laidMetH_of_parts3 (fuel := 8) (laidMet_of_run' 8 (by kernel_rfl) (by kernel_rfl)) (by kernel_rfl) (by kernel_rfl)
set_option maxRecDepth 100000 in
theorem datum_map {H : Type} : (Rows.laid_math_bits_deBruijn64tab : DataW H) = .agg (Lib.deBruijn64tab.map fun x => .lit (.int .u8 (x : Nat))) := rfl
theorem tab_len : Lib.deBruijn64tab.length = 64 := by decide
theorem tab_of_laid {W : World} (h : laidMetH Tryd.prog laidL W) : Tab W := by
  rw [MakeChecks.laidMetH_plain _ _ _ (by kernel_rfl)] at h
  obtain ⟨ps, ⟨g0, t0, cs0, f0, p0, q0, hg0, ht0, hv0, hd0, _, _⟩, _, _⟩ := h
  obtain rfl := Option.some.inj (gTab.symm.trans hg0)
  obtain rfl := Option.some.inj (tTab.symm.trans ht0)
  obtain ⟨xs, m1, rfl, hx1, hlen, hn, hel⟩ := DataW.trod_array Tryd.underlying131 hd0
  have c1 : Tryd.prog.cellsOf 5 = 1 := by kernel_rfl
  rw [c1] at hel
  simp only [Prod.mk.injEq, datum_map, DataW.agg.injEq] at hx1
  intro j hj
  rw [ren1]
  have hj64 : j < 64 := by rw [tab_len] at hj; exact hj
  have hcell := World.var?_cell hg0 hv0 j
  rw [hcell]
  have h1 := hel j hj64
  have hxj : xs[j]? = some xs[j] := List.getElem?_eq_getElem (by omega)
  rw [hxj, Nat.mul_one] at h1
  obtain ⟨n, e1, e2, _⟩ := DataW.trod_int Tryd.underlying5 h1
  have hm : (xs.map (·.1))[j]? = some (.lit (.int .u8 n)) := by rw [List.getElem?_map, hxj, e2]; rfl
  rw [← hx1.1, List.getElem?_map, List.getElem?_eq_getElem hj] at hm
  simp only [Option.map_some, Option.some.injEq, DataW.lit.injEq, Lit.int.injEq, true_and] at hm
  have hget : cs0[j]? = some (.int .u8 n) := by
    have h2 : ((cs0.toList.drop j).take 1)[0]? = some (.int .u8 n) := by rw [e1]; rfl
    rw [List.getElem?_take_of_lt (by decide), List.getElem?_drop, Nat.add_zero, Array.getElem?_toList] at h2
    exact h2
  rw [hget, ← hm, List.getD_eq_getElem?_getD, List.getElem?_eq_getElem hj]; rfl
theorem two_words (x y : Nat) (hx : x < 18446744073709551616) (hy : y < 18446744073709551616) : ∃ b : Nat, Value.agg #[.int .u64 (x : Nat), .int .u64 (y : Nat)] = BV b ∧ b < 2 ^ (64 * 2) := by
  refine ⟨x * 18446744073709551616 + y, ?_, by omega⟩
  have h1 : limb (x * 18446744073709551616 + y) 1 = (x : Nat) := by
    show ((limbN (x * 18446744073709551616 + y) 1 : Nat) : Int) = x
    unfold limbN; rw [show 2 ^ (64 * 1) = 18446744073709551616 from rfl]; omega
  have h0 : limb (x * 18446744073709551616 + y) 0 = (y : Nat) := by
    show ((limbN (x * 18446744073709551616 + y) 0 : Nat) : Int) = y
    unfold limbN; rw [show 2 ^ (64 * 0) = 1 from rfl]; omega
  show Value.agg #[_, _] = .agg #[.int .u64 (limb _ 1), .int .u64 (limb _ 0)]
  rw [h1, h0]
theorem bits_cells : Tryd.prog.cellsOf 27 = 2 := by kernel_rfl
set_option maxRecDepth 100000 in
/-- An argument of 128 bits is the encoding of a number. -/
theorem open_bits {H : Type} {enc : TypeId × Value → H} {W : World} {r : Reach} {base b0 : Nat} {spare : Nat → Bool} {held : Bool} {v : Value} {d : DataW H} {p : List MemPlace}
    (hv : Value.okWide Tryd.prog W r b0 27 v) (h : DataW.Trod enc Tryd.prog W base spare held 27 v d p) : ∃ b : Nat, v = BV b ∧ b < 2 ^ (64 * 2) := by
  obtain ⟨c0, c1, y0, y1, m, rfl, rfl, rfl, hy0, hy1⟩ := Go.Joins.open_agg2 Tryd.underlying27 (by kernel_rfl) bits_cells hv h
  obtain ⟨x, e0, rfl, wx⟩ := DataW.trod_int Tryd.underlying25 hy0
  obtain ⟨y, e1, rfl, wy⟩ := DataW.trod_int Tryd.underlying25 hy1
  simp at e0 e1
  subst e0 e1
  have bx := bounds_u64 wx
  have bY := bounds_u64 wy
  obtain ⟨x, rfl⟩ := Int.eq_ofNat_of_zero_le bx.1
  obtain ⟨y, rfl⟩ := Int.eq_ofNat_of_zero_le bY.1
  exact two_words x y (by omega) (by omega)
theorem nat_u8 {x : Int} (h : (Lit.int .u8 x).wf = true) : ∃ n : Nat, x = n ∧ n < 256 := by
  have b := bounds_u8 h
  obtain ⟨n, rfl⟩ := Int.eq_ofNat_of_zero_le b.1
  exact ⟨n, rfl, by omega⟩
end Go.Proofs.YtdcgcjmajacgiaaDoor

namespace Go.Proofs.YtdcgcjmajacgiaaDoor
open Go.ChangeShapes Go.WideShapes Go.ChangeAt Go.RowKit
namespace RowSqrtSquares
set_option maxRecDepth 100000 in
theorem lifted (os : Os) (started : os.Started) (H : Type) (enc : TypeId × Value → H) :
    ReturnsInHanded {} Tryd.checked os 6 .any (fun w args => (Rows.sqrtSquaresSpec.pre enc Tryd.prog Tryd.f6 [] false w args ∧ laidMetH Tryd.prog laidL w) ∧ sizedMet enc Tryd.prog Tryd.f6 (OpenSpec.ofChange Rows.sqrtSquaresSpec) false w args)
      (Rows.sqrtSquaresSpec.post enc Tryd.prog Tryd.f6 false true false false) := by
  refine returnsInHanded_of_change_and (C := Tryd.checked) (X := fun w _ => laidMetH Tryd.prog laidL w) (fun _ _ _ hh h => h.of_heap hh) own started (by kernel_rfl) Tryd.func6
    (ChangeSpec.witness_shaped (enc := enc) (C := Tryd.checked) (os := os) (X := fun w _ => laidMetH Tryd.prog laidL w) false (World.doorLaid Tryd.prog 400 os) #[.int .u8 0, .int .u8 0, .agg #[.int .u64 0, .int .u64 0]] 8 rfl (World.shaped_of_RefB (by kernel_rfl) (by kernel_rfl)) (by kernel_rfl) (by kernel_rfl) (by kernel_rfl) (door_met os _)) ?_
  intro W base args ds gs before hval0 hW _ _ hL _
  have hval : ∀ (j : Nat) t v, Tryd.f6.params[j]? = some t → args[j]? = some v → Value.okWide Tryd.prog W .any base t v := hval0
  have hW' := hW
  obtain ⟨p, q, hA0, hV, rfl, hfz, hnd⟩ := hW
  have hA : DataW.TrodAll enc Tryd.prog W 0 (fun _ => true) true Tryd.f6.params.toList args.toList ds p := hA0
  rw [Tryd.params6] at hA hval
  obtain ⟨v0, vs0, d0, ds0, p0, q0, hargs, rfl, rfl, h0, r0⟩ := trodAll_cons hA
  obtain ⟨v1, vs1, d1, ds1, p1, q1, rfl, rfl, rfl, h1, r1⟩ := trodAll_cons r0
  obtain ⟨v2, vs2, d2, ds2, p2, q2, rfl, rfl, rfl, h2, r2⟩ := trodAll_cons r1
  obtain ⟨rfl, rfl, rfl⟩ := trodAll_nil r2
  obtain rfl : args = #[v0, v1, v2] := by cases args; simp_all
  obtain ⟨rfl, rfl⟩ := trodVars_none hV
  have hT : Tab W := tab_of_laid hL
  obtain ⟨b0, rfl, rfl, rfl, w0⟩ := open_int Tryd.underlying22 (hval 0 22 v0 rfl rfl) h0
  obtain ⟨a0, rfl, n0⟩ := nat_u8 w0
  obtain ⟨b1, rfl, rfl, rfl, w1⟩ := open_int Tryd.underlying24 (hval 1 24 v1 rfl rfl) h1
  obtain ⟨a1, rfl, n1⟩ := nat_u8 w1
  have k2 := h2
  have lt2 : ∀ x ∈ p2, x.block < W.heap.size := by obtain ⟨m, hm⟩ := k2; exact DataW.trod_lt m _ _ _ hm
  obtain ⟨a2, rfl, n2⟩ := open_bits (hval 2 27 v2 rfl rfl) h2
  clear hA0 hval0
  refine (sqrtSquares_any a0 a1 a2 W n0 n1 n2 hT).mono fun e W' ⟨he, bel⟩ => ?_
  subst he
  exact ⟨_, rfl, _, _, _, [], _, [], hW', trodAll_mk1 (shut_bool Tryd.underlying4 _), (trodAll_cons_mk (shut_int Tryd.underlying22 w0) (trodAll_cons_mk (shut_int Tryd.underlying24 w1) (trodAll_cons_mk (Below.trod laidOut (by kernel_rfl) (of_decide_eq_true (by kernel_rfl)) k2 bel lt2) trodAll_mk0))), rfl, bel.frame _, fun h => by cases h⟩
theorem over : Rows.sqrtSquaresRow.holds Tryd.pinned (OpenSpec.ofChange Rows.sqrtSquaresSpec) :=
  OpenClaim.holds_of_wide 6 Tryd.f6 rfl rfl rfl rfl rfl rfl rfl ⟨rfl, rfl, rfl, rfl, rfl⟩ rfl rfl rfl rfl rfl (by kernel_rfl) Tryd.func6 (by kernel_rfl)
    (of_decide_eq_true (by kernel_rfl)) (by unfold Func.isWrapper; first | (rw [if_pos (by decide +kernel)]; kernel_rfl) | (rw [if_neg (by decide +kernel)]; exact ⟨rfl, rfl⟩))
    (fun os started H enc _ => lifted os started H enc)
end RowSqrtSquares
/-- The card, for the claim. -/
theorem sqrtSquares_holds : Rows.SqrtSquaresCardSaid :=
  Claim7.holds_tied_plain_at .later [] [.data] true (true, "9c03aea7278df5a18531458d6d3a08aec8c21938b4a4e01a7d05c8ad9a638a45") false
    RowSqrtSquares.over (fun _ h => by cases h) (by kernel_rfl) (fun _ h => by cases h) sqrtSquares_row_tie rfl ⟨rfl, rfl⟩ (by kernel_rfl) rfl
    (fun f fn hf hfn => by
      obtain rfl : f = 6 := Option.some.inj ((show Tryd.prog.funcNamed "abacus/abacuslaw14.SqrtSquares" = some 6 by kernel_rfl).symm.trans hf) |>.symm
      obtain rfl : fn = Tryd.f6 := (Option.some.inj (Tryd.func6.symm.trans hfn)).symm
      exact ⟨by kernel_rfl, fun j t ht => by
        rw [Tryd.params6] at ht
        have hm : t ∈ [22, 24, 27] := by simpa using Array.mem_of_getElem? ht
        have hall : ([22, 24, 27].all fun u => !Tryd.prog.wantsStandIn u) = true := by kernel_rfl
        exact (show Tryd.prog.wantsStandIn t = false by simpa using List.all_eq_true.1 hall t hm)⟩)
    (by kernel_rfl)
#print axioms sqrtSquares_holds
end Go.Proofs.YtdcgcjmajacgiaaDoor
