/- Part 6 of the proof. -/
import Derived.Test.YtgmhmpflmgfcdaaGreatDoorHm1
import Derived.Test.YtgmhmpflmgfcdaaGreatDoorHm2
import Derived.Test.YtgmhmpflmgfcdaaGreatDoorHm3
import Derived.Test.YtgmhmpflmgfcdaaGreatDoorHm4
import Derived.Test.YtgmhmpflmgfcdaaGreatDoorHm5
set_option linter.unusedSimpArgs false
set_option linter.unusedVariables false
set_option linter.unnecessarySimpa false
set_option maxRecDepth 100000
set_option maxHeartbeats 3200000
namespace Go.Proofs.YtgmhmpflmgfcdaaGreatDoor
open Go.RowKit
def sumV (F : Nat → Nat → Nat × Nat × Int) (z f m : Nat) (l : List Nat) : Nat × Int × Int := if (decide (f < 4) && decide (m < 5) && allB f l) = true then (if l = [] then (z, 0, 0) else ((sumF F l).1, (sumF F l).2, 0)) else (0, 0, 2)
def tellS (r : Nat × Int × Int) : Value := .tuple #[BV r.1, .int .u8 r.2.1, .int .i64 r.2.2]
theorem sumV_bad (F : Nat → Nat → Nat × Nat × Int) (z f m : Nat) (l : List Nat) (h : (decide (m < 5) && decide (f < 4)) = false) : sumV F z f m l = (0, 0, 2) := by
 unfold sumV; rw [Bool.and_comm (decide (f < 4)), h]; rfl
theorem sumV_nil (F : Nat → Nat → Nat × Nat × Int) (z f m : Nat) (h : (decide (m < 5) && decide (f < 4)) = true) : sumV F z f m [] = (z, 0, 0) := by
 unfold sumV; rw [Bool.and_comm (decide (f < 4)), h]; rfl
theorem sumV_some (F : Nat → Nat → Nat × Nat × Int) (z f m : Nat) (l : List Nat) (h : (decide (m < 5) && decide (f < 4)) = true) (h0 : l ≠ []) : tellS (sumV F z f m l) = if allB f l = true then .tuple #[BV (sumF F l).1, .int .u8 (sumF F l).2, .int .i64 0] else .tuple #[BV 0, .int .u8 0, .int .i64 2] := by
 unfold sumV tellS; rw [Bool.and_comm (decide (f < 4)), h, Bool.true_and, if_neg h0]; split <;> rfl
theorem ne_nil (l : List Nat) (n : Nat) (h : l.length = n) (h0 : 0 < n) : l ≠ [] := fun e => by rw [e] at h; simp at h; omega
theorem mul_open2_mode (f m a b : Nat) (w0 : World) (g0 : Nat) (hB : Blk 27 w0 g0 (cat2 (bc a) (bc b))) (cM : ∀ w, Calls Tryz.prog 121 #[.int .u8 m] w fun e w' => e = .returned (.int .i64 2) ∧ w = w') :
  CR_ 91 #[.int .u8 f, .int .u8 m, .slice (some ⟨g0, 0, none⟩) 2 2] w0 (.tuple #[.agg (tri 0 0 0 0 0 0 0 0 0 0 0 0), .bool false]) := by
 have H := Own.start w0
 go_enter Tryz.func91, Tryz.ntmps91
 exact walk2
theorem mul_open2_form (f m a b : Nat) (w0 : World) (g0 : Nat) (hB : Blk 27 w0 g0 (cat2 (bc a) (bc b))) (cM : ∀ w, Calls Tryz.prog 121 #[.int .u8 m] w fun e w' => e = .returned (.int .i64 0) ∧ w = w') (cF : ∀ w, Calls Tryz.prog 154 #[.int .u8 f] w fun e w' => e = .returned (.int .i64 2) ∧ w = w') :
  CR_ 91 #[.int .u8 f, .int .u8 m, .slice (some ⟨g0, 0, none⟩) 2 2] w0 (.tuple #[.agg (tri 0 0 0 0 0 0 0 0 0 0 0 0), .bool false]) := by
 have H := Own.start w0
 go_enter Tryz.func91, Tryz.ntmps91
 exact walk2
theorem mul_open2_no0 (f m a b : Nat) (w0 : World) (hT : Tab w0) (g0 : Nat) (hB : Blk 27 w0 g0 (cat2 (bc a) (bc b))) (cM : ∀ w, Calls Tryz.prog 121 #[.int .u8 m] w fun e w' => e = .returned (.int .i64 0) ∧ w = w') (cF : ∀ w, Calls Tryz.prog 154 #[.int .u8 f] w fun e w' => e = .returned (.int .i64 0) ∧ w = w') (cUa : CT_ 120 #[.int .u8 f, BV a] (.tuple #[.agg PZ, .int .i64 2])) :
  CR_ 91 #[.int .u8 f, .int .u8 m, .slice (some ⟨g0, 0, none⟩) 2 2] w0 (.tuple #[.agg (tri 0 0 0 0 0 0 0 0 0 0 0 0), .bool false]) := by
 have H := Own.start w0
 have HT := Lib.hid hT
 clear hT
 go_enter Tryz.func91, Tryz.ntmps91
 go_wp2_with (first
  | ((with_reducible refine g0_ rfl ?_); refine H.xb ?_; (intro g w H; simp only [Act.put, q1_, q2_, q3_]))
  | ((with_reducible refine g1_ rfl ?_); refine H.xa ?_; (intro g w H; simp only [Act.put, q1_, q2_, q3_]))
  | ((with_reducible refine g2_ rfl ?_); (first | refine H.xl ?_ | refine H.xm ?_); simp only [Act.put, q1_, q2_, q3_])
  | ((with_reducible refine g3_ rfl ?_); (first | refine H.xs ?_ | refine H.xt ?_); (intro w H; simp only [Act.put]))
  | (go_at_call 121; ((with_reducible refine (cM _).mono ?_); rintro e w' ⟨rfl, rfl⟩))
  | (go_at_call 154; ((with_reducible refine (cF _).mono ?_); rintro e w' ⟨rfl, rfl⟩))
  )
 go_loopw [23] (fun i wr => (i = .int .i64 0 ∧ Own w0 wr [(g, 101, (tri 0 0 0 0 0 0 0 0 0 0 0 0))])) (fun i _ => 3 - (intOf i).toNat)
 case atStart => exact ⟨rfl, H⟩
 case round =>
  clear H
  obtain ⟨rfl, H⟩ := hrel
  ·go_wp2_with (first
  | ((with_reducible refine g0_ rfl ?_); refine H.xb ?_; (intro g w H; simp only [Act.put, q1_, q2_, q3_]))
  | ((with_reducible refine g1_ rfl ?_); refine H.xa ?_; (intro g w H; simp only [Act.put, q1_, q2_, q3_]))
  | ((with_reducible refine g2_ rfl ?_); (first | refine H.xl ?_ | refine H.xm ?_); simp only [Act.put, q1_, q2_, q3_])
  | ((with_reducible refine g3_ rfl ?_); (first | refine H.xs ?_ | refine H.xt ?_); (intro w H; simp only [Act.put]))
  | ((with_reducible refine g4_ rfl ?_); refine H.ldo rfl rB rfl rfl hB (by first | with_reducible exact cat2_0 (bc _) (bc _)) (by rfl) ?_; simp only [Act.put, q1_, q2_, q3_])
  | (go_at_call 120; (with_reducible refine H.kc (cUa _ (HT.out.below H.below)) ?_; clear H; intro w H))
  )
   all_goals
    refine bodyPost_ret (results_ct rfl rfl (H.res rQ v2_ (ext_tri _ _ _ _ _ _ _ _ _ _ _ _) (by rfl))) rfl ⟨?_, H.below⟩
    rfl
theorem mul_open2_no1 (f m a b : Nat) (w0 : World) (hT : Tab w0) (g0 : Nat) (hB : Blk 27 w0 g0 (cat2 (bc a) (bc b))) (cM : ∀ w, Calls Tryz.prog 121 #[.int .u8 m] w fun e w' => e = .returned (.int .i64 0) ∧ w = w') (cF : ∀ w, Calls Tryz.prog 154 #[.int .u8 f] w fun e w' => e = .returned (.int .i64 0) ∧ w = w') (cUa : CT_ 120 #[.int .u8 f, BV a] (.tuple #[.agg (PT f a), .int .i64 0])) (cUb : CT_ 120 #[.int .u8 f, BV b] (.tuple #[.agg PZ, .int .i64 2])) :
  CR_ 91 #[.int .u8 f, .int .u8 m, .slice (some ⟨g0, 0, none⟩) 2 2] w0 (.tuple #[.agg (tri (clsN f a) (sigN f a) (xpN f a) (frN f a) 0 0 0 0 0 0 0 0), .bool false]) := by
 have H := Own.start w0
 have HT := Lib.hid hT
 clear hT
 go_enter Tryz.func91, Tryz.ntmps91
 go_wp2_with (first
  | ((with_reducible refine g0_ rfl ?_); refine H.xb ?_; (intro g w H; simp only [Act.put, q1_, q2_, q3_]))
  | ((with_reducible refine g1_ rfl ?_); refine H.xa ?_; (intro g w H; simp only [Act.put, q1_, q2_, q3_]))
  | ((with_reducible refine g2_ rfl ?_); (first | refine H.xl ?_ | refine H.xm ?_); simp only [Act.put, q1_, q2_, q3_])
  | ((with_reducible refine g3_ rfl ?_); (first | refine H.xs ?_ | refine H.xt ?_); (intro w H; simp only [Act.put]))
  | (go_at_call 121; ((with_reducible refine (cM _).mono ?_); rintro e w' ⟨rfl, rfl⟩))
  | (go_at_call 154; ((with_reducible refine (cF _).mono ?_); rintro e w' ⟨rfl, rfl⟩))
  )
 go_loopw [23] (fun i wr => (i = .int .i64 0 ∧ Own w0 wr [(g, 101, (tri 0 0 0 0 0 0 0 0 0 0 0 0))]) ∨ (i = .int .i64 1 ∧ Own w0 wr [(g, 101, (tri (clsN f a) (sigN f a) (xpN f a) (frN f a) 0 0 0 0 0 0 0 0))])) (fun i _ => 3 - (intOf i).toNat)
 case atStart => exact Or.inl ⟨rfl, H⟩
 case round =>
  clear H
  rcases hrel with ⟨rfl, H⟩ | ⟨rfl, H⟩
  ·go_wp2_with (first
  | ((with_reducible refine g0_ rfl ?_); refine H.xb ?_; (intro g w H; simp only [Act.put, q1_, q2_, q3_]))
  | ((with_reducible refine g1_ rfl ?_); refine H.xa ?_; (intro g w H; simp only [Act.put, q1_, q2_, q3_]))
  | ((with_reducible refine g2_ rfl ?_); (first | refine H.xl ?_ | refine H.xm ?_); simp only [Act.put, q1_, q2_, q3_])
  | ((with_reducible refine g3_ rfl ?_); (first | refine H.xs ?_ | refine H.xt ?_); (intro w H; simp only [Act.put]))
  | ((with_reducible refine g4_ rfl ?_); refine H.ldo rfl rB rfl rfl hB (by first | with_reducible exact cat2_0 (bc _) (bc _)) (by rfl) ?_; simp only [Act.put, q1_, q2_, q3_])
  | (go_at_call 120; (with_reducible refine H.kc (cUa _ (HT.out.below H.below)) ?_; clear H; intro w H))
  )
   all_goals
    go_roundw
    case rel => exact Or.inr (⟨by go_num, H.sub v4_⟩)
    case measure => simp [intOf]
  ·go_wp2_with (first
  | ((with_reducible refine g0_ rfl ?_); refine H.xb ?_; (intro g w H; simp only [Act.put, q1_, q2_, q3_]))
  | ((with_reducible refine g1_ rfl ?_); refine H.xa ?_; (intro g w H; simp only [Act.put, q1_, q2_, q3_]))
  | ((with_reducible refine g2_ rfl ?_); (first | refine H.xl ?_ | refine H.xm ?_); simp only [Act.put, q1_, q2_, q3_])
  | ((with_reducible refine g3_ rfl ?_); (first | refine H.xs ?_ | refine H.xt ?_); (intro w H; simp only [Act.put]))
  | ((with_reducible refine g4_ rfl ?_); refine H.ldo rfl rB rfl rfl hB (by first | with_reducible exact cat2_1 (bc _) (bc _) rfl) (by rfl) ?_; simp only [Act.put, q1_, q2_, q3_])
  | (go_at_call 120; (with_reducible refine H.kc (cUb _ (HT.out.below H.below)) ?_; clear H; intro w H))
  )
   all_goals
    refine bodyPost_ret (results_ct rfl rfl (H.res rQ v2_ (ext_tri _ _ _ _ _ _ _ _ _ _ _ _) (by rfl))) rfl ⟨?_, H.below⟩
    rfl
theorem mul_open2_ok (f m a b : Nat) (w0 : World) (hT : Tab w0) (g0 : Nat) (hB : Blk 27 w0 g0 (cat2 (bc a) (bc b))) (cM : ∀ w, Calls Tryz.prog 121 #[.int .u8 m] w fun e w' => e = .returned (.int .i64 0) ∧ w = w') (cF : ∀ w, Calls Tryz.prog 154 #[.int .u8 f] w fun e w' => e = .returned (.int .i64 0) ∧ w = w') (cUa : CT_ 120 #[.int .u8 f, BV a] (.tuple #[.agg (PT f a), .int .i64 0])) (cUb : CT_ 120 #[.int .u8 f, BV b] (.tuple #[.agg (PT f b), .int .i64 0])) :
  CR_ 91 #[.int .u8 f, .int .u8 m, .slice (some ⟨g0, 0, none⟩) 2 2] w0 (.tuple #[.agg (tri (clsN f a) (sigN f a) (xpN f a) (frN f a) (clsN f b) (sigN f b) (xpN f b) (frN f b) 0 0 0 0), .bool true]) := by
 have H := Own.start w0
 have HT := Lib.hid hT
 clear hT
 go_enter Tryz.func91, Tryz.ntmps91
 go_wp2_with (first
  | ((with_reducible refine g0_ rfl ?_); refine H.xb ?_; (intro g w H; simp only [Act.put, q1_, q2_, q3_]))
  | ((with_reducible refine g1_ rfl ?_); refine H.xa ?_; (intro g w H; simp only [Act.put, q1_, q2_, q3_]))
  | ((with_reducible refine g2_ rfl ?_); (first | refine H.xl ?_ | refine H.xm ?_); simp only [Act.put, q1_, q2_, q3_])
  | ((with_reducible refine g3_ rfl ?_); (first | refine H.xs ?_ | refine H.xt ?_); (intro w H; simp only [Act.put]))
  | (go_at_call 121; ((with_reducible refine (cM _).mono ?_); rintro e w' ⟨rfl, rfl⟩))
  | (go_at_call 154; ((with_reducible refine (cF _).mono ?_); rintro e w' ⟨rfl, rfl⟩))
  )
 go_loopw [23] (fun i wr => (i = .int .i64 0 ∧ Own w0 wr [(g, 101, (tri 0 0 0 0 0 0 0 0 0 0 0 0))]) ∨ (i = .int .i64 1 ∧ Own w0 wr [(g, 101, (tri (clsN f a) (sigN f a) (xpN f a) (frN f a) 0 0 0 0 0 0 0 0))]) ∨ (i = .int .i64 2 ∧ Own w0 wr [(g, 101, (tri (clsN f a) (sigN f a) (xpN f a) (frN f a) (clsN f b) (sigN f b) (xpN f b) (frN f b) 0 0 0 0))])) (fun i _ => 3 - (intOf i).toNat)
 case atStart => exact Or.inl ⟨rfl, H⟩
 case round =>
  clear H
  rcases hrel with ⟨rfl, H⟩ | ⟨rfl, H⟩ | ⟨rfl, H⟩
  ·go_wp2_with (first
  | ((with_reducible refine g0_ rfl ?_); refine H.xb ?_; (intro g w H; simp only [Act.put, q1_, q2_, q3_]))
  | ((with_reducible refine g1_ rfl ?_); refine H.xa ?_; (intro g w H; simp only [Act.put, q1_, q2_, q3_]))
  | ((with_reducible refine g2_ rfl ?_); (first | refine H.xl ?_ | refine H.xm ?_); simp only [Act.put, q1_, q2_, q3_])
  | ((with_reducible refine g3_ rfl ?_); (first | refine H.xs ?_ | refine H.xt ?_); (intro w H; simp only [Act.put]))
  | ((with_reducible refine g4_ rfl ?_); refine H.ldo rfl rB rfl rfl hB (by first | with_reducible exact cat2_0 (bc _) (bc _)) (by rfl) ?_; simp only [Act.put, q1_, q2_, q3_])
  | (go_at_call 120; (with_reducible refine H.kc (cUa _ (HT.out.below H.below)) ?_; clear H; intro w H))
  )
   all_goals
    go_roundw
    case rel => exact Or.inr (Or.inl ⟨by go_num, H.sub v4_⟩)
    case measure => simp [intOf]
  ·go_wp2_with (first
  | ((with_reducible refine g0_ rfl ?_); refine H.xb ?_; (intro g w H; simp only [Act.put, q1_, q2_, q3_]))
  | ((with_reducible refine g1_ rfl ?_); refine H.xa ?_; (intro g w H; simp only [Act.put, q1_, q2_, q3_]))
  | ((with_reducible refine g2_ rfl ?_); (first | refine H.xl ?_ | refine H.xm ?_); simp only [Act.put, q1_, q2_, q3_])
  | ((with_reducible refine g3_ rfl ?_); (first | refine H.xs ?_ | refine H.xt ?_); (intro w H; simp only [Act.put]))
  | ((with_reducible refine g4_ rfl ?_); refine H.ldo rfl rB rfl rfl hB (by first | with_reducible exact cat2_1 (bc _) (bc _) rfl) (by rfl) ?_; simp only [Act.put, q1_, q2_, q3_])
  | (go_at_call 120; (with_reducible refine H.kc (cUb _ (HT.out.below H.below)) ?_; clear H; intro w H))
  )
   all_goals
    go_roundw
    case rel => exact Or.inr (Or.inr (⟨by go_num, H.sub v4_⟩))
    case measure => simp [intOf]
  ·go_wp2_with (first
  | ((with_reducible refine g0_ rfl ?_); refine H.xb ?_; (intro g w H; simp only [Act.put, q1_, q2_, q3_]))
  | ((with_reducible refine g1_ rfl ?_); refine H.xa ?_; (intro g w H; simp only [Act.put, q1_, q2_, q3_]))
  | ((with_reducible refine g2_ rfl ?_); (first | refine H.xl ?_ | refine H.xm ?_); simp only [Act.put, q1_, q2_, q3_])
  | ((with_reducible refine g3_ rfl ?_); (first | refine H.xs ?_ | refine H.xt ?_); (intro w H; simp only [Act.put]))
  )
   all_goals
    refine bodyPost_ret (results_ct rfl rfl (H.res rQ v2_ (ext_tri _ _ _ _ _ _ _ _ _ _ _ _) (by rfl))) rfl ⟨?_, H.below⟩
    rfl
theorem mul_canon (f : Nat) (c0 s0 f0 : Nat) (x0 : Int) (c1 s1 f1 : Nat) (x1 : Int) (w0 : World) (g0 : Nat) (hB : Blk 100 w0 g0 (cat2 (parts c0 s0 x0 f0) (parts c1 s1 x1 f1))) (cN : CK_ 76 #[.int .u8 f] (BV (nanN f))) :
  CR_ 174 #[.int .u8 f, .slice (some ⟨g0, 0, none⟩) 2 2] w0 (.tuple #[BV (nanN f), .int .u8 (cond (decide (c0 = 8) || decide (c1 = 8)) 16 0), .int .i64 0]) := by
 have H := Own.start w0
 go_enter Tryz.func174, Tryz.ntmps174
 go_wp2_with (first
  | ((with_reducible refine g0_ rfl ?_); refine H.xb ?_; (intro g w H; simp only [Act.put, q1_, q2_, q3_]))
  | ((with_reducible refine g1_ rfl ?_); refine H.xa ?_; (intro g w H; simp only [Act.put, q1_, q2_, q3_]))
  | ((with_reducible refine g2_ rfl ?_); (first | refine H.xl ?_ | refine H.xm ?_); simp only [Act.put, q1_, q2_, q3_])
  | ((with_reducible refine g3_ rfl ?_); (first | refine H.xs ?_ | refine H.xt ?_); (intro w H; simp only [Act.put]))
  )
 go_loopw [7, 12] (fun v i wr => (i = .int .i64 0 ∧ v = .int .u8 0 ∧ Own w0 wr [(g, 27, #[.int .u64 0, .int .u64 0])]) ∨ (i = .int .i64 1 ∧ v = .int .u8 (cond (decide (c0 = 8)) 16 0) ∧ Own w0 wr [(g, 27, #[.int .u64 0, .int .u64 0])]) ∨ (i = .int .i64 2 ∧ v = .int .u8 (cond (decide (c0 = 8) || decide (c1 = 8)) 16 0) ∧ Own w0 wr [(g, 27, #[.int .u64 0, .int .u64 0])])) (fun _ i _ => 3 - (intOf i).toNat)
 case atStart => exact Or.inl ⟨rfl, rfl, H⟩
 case round =>
  clear H
  rcases hrel with ⟨rfl, rfl, H⟩ | ⟨rfl, rfl, H⟩ | ⟨rfl, rfl, H⟩
  ·by_cases hc : c0 = 8
   ·have e1 : ((c0 : Int) == 8) = true := int_eq_true c0 8 hc
    go_wp2_with (first
  | ((with_reducible refine g0_ rfl ?_); refine H.xb ?_; (intro g w H; simp only [Act.put, q1_, q2_, q3_]))
  | ((with_reducible refine g1_ rfl ?_); refine H.xa ?_; (intro g w H; simp only [Act.put, q1_, q2_, q3_]))
  | ((with_reducible refine g2_ rfl ?_); (first | refine H.xl ?_ | refine H.xm ?_); simp only [Act.put, q1_, q2_, q3_])
  | ((with_reducible refine g3_ rfl ?_); (first | refine H.xs ?_ | refine H.xt ?_); (intro w H; simp only [Act.put]))
  | ((with_reducible refine g17_ rfl ?_); refine H.ldo rfl rP rfl rfl hB (by first | with_reducible exact cat2_0 (parts _ _ _ _) (parts _ _ _ _)) (by rfl) ?_; simp only [Act.put, q1_, q2_, q3_])
  )
    all_goals
     go_roundw
     case rel => exact Or.inr (Or.inl ⟨by go_num, (by with_reducible exact flag_on0 _ (by rw [decide_eq_true hc])), H.sub v4_⟩)
     case measure => simp [intOf]
   ·have e1 : ((c0 : Int) == 8) = false := int_eq_false c0 8 hc
    go_wp2_with (first
  | ((with_reducible refine g0_ rfl ?_); refine H.xb ?_; (intro g w H; simp only [Act.put, q1_, q2_, q3_]))
  | ((with_reducible refine g1_ rfl ?_); refine H.xa ?_; (intro g w H; simp only [Act.put, q1_, q2_, q3_]))
  | ((with_reducible refine g2_ rfl ?_); (first | refine H.xl ?_ | refine H.xm ?_); simp only [Act.put, q1_, q2_, q3_])
  | ((with_reducible refine g3_ rfl ?_); (first | refine H.xs ?_ | refine H.xt ?_); (intro w H; simp only [Act.put]))
  | ((with_reducible refine g17_ rfl ?_); refine H.ldo rfl rP rfl rfl hB (by first | with_reducible exact cat2_0 (parts _ _ _ _) (parts _ _ _ _)) (by rfl) ?_; simp only [Act.put, q1_, q2_, q3_])
  )
    all_goals
     go_roundw
     case rel => exact Or.inr (Or.inl ⟨by go_num, (by with_reducible exact flag_off0 _ (by rw [decide_eq_false hc])), H.sub v4_⟩)
     case measure => simp [intOf]
  ·by_cases hc : c1 = 8
   ·have e1 : ((c1 : Int) == 8) = true := int_eq_true c1 8 hc
    go_wp2_with (first
  | ((with_reducible refine g0_ rfl ?_); refine H.xb ?_; (intro g w H; simp only [Act.put, q1_, q2_, q3_]))
  | ((with_reducible refine g1_ rfl ?_); refine H.xa ?_; (intro g w H; simp only [Act.put, q1_, q2_, q3_]))
  | ((with_reducible refine g2_ rfl ?_); (first | refine H.xl ?_ | refine H.xm ?_); simp only [Act.put, q1_, q2_, q3_])
  | ((with_reducible refine g3_ rfl ?_); (first | refine H.xs ?_ | refine H.xt ?_); (intro w H; simp only [Act.put]))
  | ((with_reducible refine g17_ rfl ?_); refine H.ldo rfl rP rfl rfl hB (by first | with_reducible exact cat2_1 (parts _ _ _ _) (parts _ _ _ _) rfl) (by rfl) ?_; simp only [Act.put, q1_, q2_, q3_])
  )
    all_goals
     go_roundw
     case rel => exact Or.inr (Or.inr (⟨by go_num, (by with_reducible exact flag_on _ _ (by rw [decide_eq_true hc]; simp)), H.sub v4_⟩))
     case measure => simp [intOf]
   ·have e1 : ((c1 : Int) == 8) = false := int_eq_false c1 8 hc
    go_wp2_with (first
  | ((with_reducible refine g0_ rfl ?_); refine H.xb ?_; (intro g w H; simp only [Act.put, q1_, q2_, q3_]))
  | ((with_reducible refine g1_ rfl ?_); refine H.xa ?_; (intro g w H; simp only [Act.put, q1_, q2_, q3_]))
  | ((with_reducible refine g2_ rfl ?_); (first | refine H.xl ?_ | refine H.xm ?_); simp only [Act.put, q1_, q2_, q3_])
  | ((with_reducible refine g3_ rfl ?_); (first | refine H.xs ?_ | refine H.xt ?_); (intro w H; simp only [Act.put]))
  | ((with_reducible refine g17_ rfl ?_); refine H.ldo rfl rP rfl rfl hB (by first | with_reducible exact cat2_1 (parts _ _ _ _) (parts _ _ _ _) rfl) (by rfl) ?_; simp only [Act.put, q1_, q2_, q3_])
  )
    all_goals
     go_roundw
     case rel => exact Or.inr (Or.inr (⟨by go_num, (by with_reducible exact flag_off _ _ (by rw [decide_eq_false hc]; simp)), H.sub v4_⟩))
     case measure => simp [intOf]
  ·go_wp2_with (first
  | ((with_reducible refine g0_ rfl ?_); refine H.xb ?_; (intro g w H; simp only [Act.put, q1_, q2_, q3_]))
  | ((with_reducible refine g1_ rfl ?_); refine H.xa ?_; (intro g w H; simp only [Act.put, q1_, q2_, q3_]))
  | ((with_reducible refine g2_ rfl ?_); (first | refine H.xl ?_ | refine H.xm ?_); simp only [Act.put, q1_, q2_, q3_])
  | ((with_reducible refine g3_ rfl ?_); (first | refine H.xs ?_ | refine H.xt ?_); (intro w H; simp only [Act.put]))
  | (go_at_call 76; (with_reducible refine H.kc (cN _) ?_; clear H; intro w H))
  )
   all_goals
    refine bodyPost_ret (results_ctt rfl rfl (H.res rB v2_ v3_ (by rfl))) rfl ⟨?_, H.below⟩
    rfl
theorem mul_open0_mode (f m : Nat) (w0 : World) (cM : ∀ w, Calls Tryz.prog 121 #[.int .u8 m] w fun e w' => e = .returned (.int .i64 2) ∧ w = w') :
  CR_ 91 #[.int .u8 f, .int .u8 m, .slice none 0 0] w0 (.tuple #[.agg (tri 0 0 0 0 0 0 0 0 0 0 0 0), .bool false]) := by
 have H := Own.start w0
 go_enter Tryz.func91, Tryz.ntmps91
 exact walk2
theorem mul_open0_form (f m : Nat) (w0 : World) (cM : ∀ w, Calls Tryz.prog 121 #[.int .u8 m] w fun e w' => e = .returned (.int .i64 0) ∧ w = w') (cF : ∀ w, Calls Tryz.prog 154 #[.int .u8 f] w fun e w' => e = .returned (.int .i64 2) ∧ w = w') :
  CR_ 91 #[.int .u8 f, .int .u8 m, .slice none 0 0] w0 (.tuple #[.agg (tri 0 0 0 0 0 0 0 0 0 0 0 0), .bool false]) := by
 have H := Own.start w0
 go_enter Tryz.func91, Tryz.ntmps91
 exact walk2
theorem mul_open0_ok (f m : Nat) (w0 : World) (hT : Tab w0) (cM : ∀ w, Calls Tryz.prog 121 #[.int .u8 m] w fun e w' => e = .returned (.int .i64 0) ∧ w = w') (cF : ∀ w, Calls Tryz.prog 154 #[.int .u8 f] w fun e w' => e = .returned (.int .i64 0) ∧ w = w')  :
  CR_ 91 #[.int .u8 f, .int .u8 m, .slice none 0 0] w0 (.tuple #[.agg (tri 0 0 0 0 0 0 0 0 0 0 0 0), .bool true]) := by
 have H := Own.start w0
 have HT := Lib.hid hT
 clear hT
 go_enter Tryz.func91, Tryz.ntmps91
 go_wp2_with (first
  | ((with_reducible refine g0_ rfl ?_); refine H.xb ?_; (intro g w H; simp only [Act.put, q1_, q2_, q3_]))
  | ((with_reducible refine g1_ rfl ?_); refine H.xa ?_; (intro g w H; simp only [Act.put, q1_, q2_, q3_]))
  | ((with_reducible refine g2_ rfl ?_); (first | refine H.xl ?_ | refine H.xm ?_); simp only [Act.put, q1_, q2_, q3_])
  | ((with_reducible refine g3_ rfl ?_); (first | refine H.xs ?_ | refine H.xt ?_); (intro w H; simp only [Act.put]))
  | (go_at_call 121; ((with_reducible refine (cM _).mono ?_); rintro e w' ⟨rfl, rfl⟩))
  | (go_at_call 154; ((with_reducible refine (cF _).mono ?_); rintro e w' ⟨rfl, rfl⟩))
  )
 go_loopw [23] (fun i wr => (i = .int .i64 0 ∧ Own w0 wr [(g, 101, (tri 0 0 0 0 0 0 0 0 0 0 0 0))])) (fun i _ => 1 - (intOf i).toNat)
 case atStart => exact ⟨rfl, H⟩
 case round =>
  clear H
  obtain ⟨rfl, H⟩ := hrel
  ·go_wp2_with (first
  | ((with_reducible refine g0_ rfl ?_); refine H.xb ?_; (intro g w H; simp only [Act.put, q1_, q2_, q3_]))
  | ((with_reducible refine g1_ rfl ?_); refine H.xa ?_; (intro g w H; simp only [Act.put, q1_, q2_, q3_]))
  | ((with_reducible refine g2_ rfl ?_); (first | refine H.xl ?_ | refine H.xm ?_); simp only [Act.put, q1_, q2_, q3_])
  | ((with_reducible refine g3_ rfl ?_); (first | refine H.xs ?_ | refine H.xt ?_); (intro w H; simp only [Act.put]))
  )
   all_goals
    refine bodyPost_ret (results_ct rfl rfl (H.res rQ v2_ (ext_tri _ _ _ _ _ _ _ _ _ _ _ _) (by rfl))) rfl ⟨?_, H.below⟩
    rfl
theorem mulOpen0_any (f m : Nat) (hf : f < 256) (hm : m < 256) : ∃ q : Array Value, q.size = 42 ∧ ∀ w, Tab w → CR_ 91 #[.int .u8 f, .int .u8 m, .slice none 0 0] w (.tuple #[.agg (tri 0 0 0 0 0 0 0 0 0 0 0 0), .bool (decide (m < 5) && decide (f < 4))]) := by
 refine ⟨tri 0 0 0 0 0 0 0 0 0 0 0 0, rfl, fun w hT => ?_⟩
 have cM := fun w => shapeCheckMode_any m w hm
 have cF := fun w => shapeCheck_any f w hf
 by_cases hm5 : m < 5
 case neg =>
  rw [decide_eq_false hm5] at cM
  rw [decide_eq_false hm5]
  exact mul_open0_mode f m w cM
 rw [decide_eq_true hm5] at cM
 by_cases hf4 : f < 4
 case neg =>
  rw [decide_eq_false hf4] at cF
  rw [decide_eq_false hf4, Bool.and_false]
  exact mul_open0_form f m w cM cF
 rw [decide_eq_true hf4] at cF
 rw [decide_eq_true hm5, decide_eq_true hf4]
 exact mul_open0_ok f m w hT cM cF
theorem mulProd_bad (f m n c : Nat) (sa : Option Addr) (w0 : World) (hT : Tab w0) (cO : CT_ 91 #[.int .u8 f, .int .u8 m, .slice none 0 0] (.tuple #[.agg (tri 0 0 0 0 0 0 0 0 0 0 0 0), .bool false]))  :
  CR_ 24 #[.int .u8 f, .int .u8 m, .slice sa n c] w0 (.tuple #[BV 0, .int .u8 0, .int .i64 2]) := by
 have H := Own.start w0
 have HT := Lib.hid hT
 clear hT
 go_enter Tryz.func24, Tryz.ntmps24
 exact walk3
theorem mulProd_nil (f m c : Nat) (sa : Option Addr) (w0 : World) (hT : Tab w0) (cO : CT_ 91 #[.int .u8 f, .int .u8 m, .slice none 0 0] (.tuple #[.agg (tri 0 0 0 0 0 0 0 0 0 0 0 0), .bool true])) (q1 : Nat) (c1 : CK_ 93 #[.int .u8 f, .bool false] (BV q1)) :
  CR_ 24 #[.int .u8 f, .int .u8 m, .slice sa 0 c] w0 (.tuple #[BV q1, .int .u8 0, .int .i64 0]) := by
 have H := Own.start w0
 have HT := Lib.hid hT
 clear hT
 go_enter Tryz.func24, Tryz.ntmps24
 go_wp2_with (first
  | ((with_reducible show wpList _ _ _ (⟨some 6, .alloc 27, _, _, _, _⟩ :: _) _ _); refine H.xa ?_; (intro gr w H; simp only [Act.put, q1_, q2_, q3_]))
  | ((with_reducible refine g0_ rfl ?_); refine H.xb ?_; (intro g w H; simp only [Act.put, q1_, q2_, q3_]))
  | ((with_reducible refine g1_ rfl ?_); refine H.xa ?_; (intro g w H; simp only [Act.put, q1_, q2_, q3_]))
  | ((with_reducible refine g2_ rfl ?_); (first | refine H.xl ?_ | refine H.xm ?_); simp only [Act.put, q1_, q2_, q3_])
  | ((with_reducible refine g3_ rfl ?_); (first | refine H.xs ?_ | refine H.xt ?_); (intro w H; simp only [Act.put]))
  | (go_at_call 91; (with_reducible refine H.kc (cO _ (HT.out.below H.below)) ?_; clear H; intro w H))
  )
 go_loopw [31] (fun i wr => i = .int .i64 0 ∧ Own w0 wr [(gr, 27, #[.int .u64 0, .int .u64 0])]) (fun i _ => 1)
 case atStart => exact ⟨rfl, H.sub v4_⟩
 case round =>
  clear H
  obtain ⟨rfl, H⟩ := hrel
  go_wp2_with (first
  | ((with_reducible refine g11_ rfl rfl ?_); refine H.xa ?_; (intro gs w H; simp only [Act.put, q1_, q2_, q3_]))
  | ((with_reducible refine g0_ rfl ?_); refine H.xb ?_; (intro g w H; simp only [Act.put, q1_, q2_, q3_]))
  | ((with_reducible refine g1_ rfl ?_); refine H.xa ?_; (intro g w H; simp only [Act.put, q1_, q2_, q3_]))
  | ((with_reducible refine g2_ rfl ?_); (first | refine H.xl ?_ | refine H.xm ?_); simp only [Act.put, q1_, q2_, q3_])
  | ((with_reducible refine g3_ rfl ?_); (first | refine H.xs ?_ | refine H.xt ?_); (intro w H; simp only [Act.put]))
  | ((with_reducible refine g4_ rfl ?_); refine H.lde hB hb ?_; simp only [Act.put, q1_, q2_, q3_])
  | (go_at_call 91; (with_reducible refine H.kc (cO _ (HT.out.below H.below)) ?_; clear H; intro w H))
  | (go_at_call 92; (with_reducible refine H.kc (cTb _) ?_; clear H; intro w H))
  | (go_at_call 90; (with_reducible refine H.kc (cAb _ (HT.out.below H.below)) ?_; clear H; intro w H))
  | (go_at_call 93; (with_reducible refine H.kc (c1 _) ?_; clear H; intro w H))
  )
  all_goals
   refine bodyPost_ret (results_ctt rfl rfl (H.res rB v2_ v3_ (by rfl))) rfl ⟨?_, H.below⟩
   first | rfl | simp
theorem mulProd_some (F : Nat → Nat → Nat × Nat × Int) (f m : Nat) (l : List Nat) (g o n c : Nat) (w0 : World) (hT : Tab w0) (hB : Bls w0 g o l) (hl : Hid (∀ b ∈ l, b < 2 ^ (64 * 2))) (hn : Hid (l.length = n)) (hsm : n ≤ 60) (hc : n ≤ c) (cO : CT_ 91 #[.int .u8 f, .int .u8 m, .slice none 0 0] (.tuple #[.agg (tri 0 0 0 0 0 0 0 0 0 0 0 0), .bool true])) (cT : ∀ b w, b < 2 ^ (64 * 2) → CR_ 92 #[.int .u8 f, BV b] w (.bool (fitsB f b))) (cA : ∀ a b w, a < 2 ^ (64 * 2) → b < 2 ^ (64 * 2) → Tab w → CR_ 90 #[.int .u8 f, .int .u8 m, BV a, BV b] w (.tuple #[BV (F a b).1, .int .u8 ((F a b).2.1 : Nat), .int .i64 (F a b).2.2])) (q1 : Nat) (c1 : CK_ 93 #[.int .u8 f, .bool false] (BV q1)) :
  CR_ 24 #[.int .u8 f, .int .u8 m, .slice (some ⟨g, o, none⟩) n c] w0 (if allB f l = true then (if l = [] then .tuple #[BV q1, .int .u8 0, .int .i64 0] else .tuple #[BV (sumF F l).1, .int .u8 (sumF F l).2, .int .i64 0]) else .tuple #[BV 0, .int .u8 0, .int .i64 2]) := by
 obtain ⟨R, hR⟩ : ∃ R : Value, Hid (R = if allB f l = true then (if l = [] then .tuple #[BV q1, .int .u8 0, .int .i64 0] else .tuple #[BV (sumF F l).1, .int .u8 (sumF F l).2, .int .i64 0]) else .tuple #[BV 0, .int .u8 0, .int .i64 2]) := ⟨_, Lib.hid rfl⟩
 rw [← hR.out]
 have H := Own.start w0
 have HT := Lib.hid hT
 clear hT
 go_enter Tryz.func24, Tryz.ntmps24
 go_wp2_with (first
  | ((with_reducible show wpList _ _ _ (⟨some 6, .alloc 27, _, _, _, _⟩ :: _) _ _); refine H.xa ?_; (intro gr w H; simp only [Act.put, q1_, q2_, q3_]))
  | ((with_reducible refine g0_ rfl ?_); refine H.xb ?_; (intro g w H; simp only [Act.put, q1_, q2_, q3_]))
  | ((with_reducible refine g1_ rfl ?_); refine H.xa ?_; (intro g w H; simp only [Act.put, q1_, q2_, q3_]))
  | ((with_reducible refine g2_ rfl ?_); (first | refine H.xl ?_ | refine H.xm ?_); simp only [Act.put, q1_, q2_, q3_])
  | ((with_reducible refine g3_ rfl ?_); (first | refine H.xs ?_ | refine H.xt ?_); (intro w H; simp only [Act.put]))
  | (go_at_call 91; (with_reducible refine H.kc (cO _ (HT.out.below H.below)) ?_; clear H; intro w H))
  )
 go_loopw [31] (fun i wr => ∃ k : Nat, k ≤ n ∧ i = .int .i64 k ∧ Hid (∀ j b, j < k → l[j]? = some b → fitsB f b = true) ∧ Own w0 wr [(gr, 27, #[.int .u64 0, .int .u64 0])]) (fun i _ => n + 1 - (intOf i).toNat)
 case atStart => exact ⟨0, by omega, rfl, (by intro j b hj; omega), H.sub v4_⟩
 case round =>
  clear H
  obtain ⟨k, hk, rfl, hfit, H⟩ := hrel
  by_cases hlt : k < n
  ·obtain ⟨b, hb⟩ : ∃ b, l[k]? = some b := ⟨_, List.getElem?_eq_getElem (by rw [hn.out]; exact hlt)⟩
   have hd : decide ((k : Int) < (n : Int)) = true := by simp; omega
   have cTb := fun w => cT b w (hl.out b (List.mem_of_getElem? hb))
   cases hf : fitsB f b
   ·rw [hf] at cTb
    go_wp2_with (first
  | ((with_reducible refine g11_ rfl rfl ?_); refine H.xa ?_; (intro gs w H; simp only [Act.put, q1_, q2_, q3_]))
  | ((with_reducible refine g0_ rfl ?_); refine H.xb ?_; (intro g w H; simp only [Act.put, q1_, q2_, q3_]))
  | ((with_reducible refine g1_ rfl ?_); refine H.xa ?_; (intro g w H; simp only [Act.put, q1_, q2_, q3_]))
  | ((with_reducible refine g2_ rfl ?_); (first | refine H.xl ?_ | refine H.xm ?_); simp only [Act.put, q1_, q2_, q3_])
  | ((with_reducible refine g3_ rfl ?_); (first | refine H.xs ?_ | refine H.xt ?_); (intro w H; simp only [Act.put]))
  | ((with_reducible refine g4_ rfl ?_); refine H.lde hB hb ?_; simp only [Act.put, q1_, q2_, q3_])
  | (go_at_call 91; (with_reducible refine H.kc (cO _ (HT.out.below H.below)) ?_; clear H; intro w H))
  | (go_at_call 92; (with_reducible refine H.kc (cTb _) ?_; clear H; intro w H))
  | (go_at_call 90; (with_reducible refine H.kc (cAb _ (HT.out.below H.below)) ?_; clear H; intro w H))
  | (go_at_call 93; (with_reducible refine H.kc (c1 _) ?_; clear H; intro w H))
  )
    all_goals
     refine bodyPost_ret (results_ctt rfl rfl (H.res rB v2_ v3_ (by rfl))) rfl ⟨?_, H.below⟩
     rw [hR.out, allB_not f l k b hb hf]
     rfl
   ·rw [hf] at cTb
    go_wp2_with (first
  | ((with_reducible refine g11_ rfl rfl ?_); refine H.xa ?_; (intro gs w H; simp only [Act.put, q1_, q2_, q3_]))
  | ((with_reducible refine g0_ rfl ?_); refine H.xb ?_; (intro g w H; simp only [Act.put, q1_, q2_, q3_]))
  | ((with_reducible refine g1_ rfl ?_); refine H.xa ?_; (intro g w H; simp only [Act.put, q1_, q2_, q3_]))
  | ((with_reducible refine g2_ rfl ?_); (first | refine H.xl ?_ | refine H.xm ?_); simp only [Act.put, q1_, q2_, q3_])
  | ((with_reducible refine g3_ rfl ?_); (first | refine H.xs ?_ | refine H.xt ?_); (intro w H; simp only [Act.put]))
  | ((with_reducible refine g4_ rfl ?_); refine H.lde hB hb ?_; simp only [Act.put, q1_, q2_, q3_])
  | (go_at_call 91; (with_reducible refine H.kc (cO _ (HT.out.below H.below)) ?_; clear H; intro w H))
  | (go_at_call 92; (with_reducible refine H.kc (cTb _) ?_; clear H; intro w H))
  | (go_at_call 90; (with_reducible refine H.kc (cAb _ (HT.out.below H.below)) ?_; clear H; intro w H))
  | (go_at_call 93; (with_reducible refine H.kc (c1 _) ?_; clear H; intro w H))
  )
    all_goals
     go_roundw
     case rel => exact ⟨k + 1, by omega, by go_num, fits_next hfit.out hb hf, H.sub v4_⟩
     case measure => first | (simp [intOf]; omega) | simp [intOf]
  ·obtain rfl : k = n := by omega
   have hd : decide ((k : Int) < (k : Int)) = false := by simp
   have hall := allB_yes f l k (by rw [hn.out]; exact Nat.le_refl _) hfit.out
   have hR2 : Hid (R = _) := hR.out.trans (if_pos hall)
   clear hfit hall hR
   by_cases h0 : k = 0
   ·subst h0
    obtain rfl : l = [] := List.eq_nil_of_length_eq_zero hn.out
    have hR3 : Hid (R = _) := hR2.out.trans (if_pos rfl)
    clear hR2
    go_wp2_with (first
  | ((with_reducible refine g11_ rfl rfl ?_); refine H.xa ?_; (intro gs w H; simp only [Act.put, q1_, q2_, q3_]))
  | ((with_reducible refine g0_ rfl ?_); refine H.xb ?_; (intro g w H; simp only [Act.put, q1_, q2_, q3_]))
  | ((with_reducible refine g1_ rfl ?_); refine H.xa ?_; (intro g w H; simp only [Act.put, q1_, q2_, q3_]))
  | ((with_reducible refine g2_ rfl ?_); (first | refine H.xl ?_ | refine H.xm ?_); simp only [Act.put, q1_, q2_, q3_])
  | ((with_reducible refine g3_ rfl ?_); (first | refine H.xs ?_ | refine H.xt ?_); (intro w H; simp only [Act.put]))
  | ((with_reducible refine g4_ rfl ?_); refine H.lde hB hb ?_; simp only [Act.put, q1_, q2_, q3_])
  | (go_at_call 91; (with_reducible refine H.kc (cO _ (HT.out.below H.below)) ?_; clear H; intro w H))
  | (go_at_call 92; (with_reducible refine H.kc (cTb _) ?_; clear H; intro w H))
  | (go_at_call 90; (with_reducible refine H.kc (cAb _ (HT.out.below H.below)) ?_; clear H; intro w H))
  | (go_at_call 93; (with_reducible refine H.kc (c1 _) ?_; clear H; intro w H))
  )
    all_goals
     refine bodyPost_ret (results_ctt rfl rfl (H.res rB v2_ v3_ (by rfl))) rfl ⟨?_, H.below⟩
     rw [hR3.out]
     rfl
   have hR3 : Hid (R = _) := hR2.out.trans (if_neg (fun e => h0 (by rw [← hn.out, e]; rfl)))
   clear hR2
   have hk0 : (0 : Int) < (k : Int) := by omega
   have hkc : (1 : Int) ≤ (k : Int) := by omega
   have hk00 : ((k : Int) == 0) = false := by rw [beq_eq_false_iff_ne]; omega
   obtain ⟨b, hb⟩ : ∃ b, l[0]? = some b := ⟨_, List.getElem?_eq_getElem (by rw [hn.out]; omega)⟩
   have h1 := Lib.hid (sumF_one F l b hb)
   by_cases hc1 : c = 1
   ·subst hc1
    obtain rfl : k = 1 := by omega
    go_wp2_with (first
   | ((with_reducible refine g11_ rfl rfl ?_); refine H.xa ?_; (intro gs w H; simp only [Act.put, q1_, q2_, q3_]))
   | ((with_reducible refine g0_ rfl ?_); refine H.xb ?_; (intro g w H; simp only [Act.put, q1_, q2_, q3_]))
   | ((with_reducible refine g1_ rfl ?_); refine H.xa ?_; (intro g w H; simp only [Act.put, q1_, q2_, q3_]))
   | ((with_reducible refine g2_ rfl ?_); (first | refine H.xl ?_ | refine H.xm ?_); simp only [Act.put, q1_, q2_, q3_])
   | ((with_reducible refine g3_ rfl ?_); (first | refine H.xs ?_ | refine H.xt ?_); (intro w H; simp only [Act.put]))
   | ((with_reducible refine g4_ rfl ?_); refine H.lde hB hb ?_; simp only [Act.put, q1_, q2_, q3_])
   | (go_at_call 91; (with_reducible refine H.kc (cO _ (HT.out.below H.below)) ?_; clear H; intro w H))
   | (go_at_call 92; (with_reducible refine H.kc (cTb _) ?_; clear H; intro w H))
   | (go_at_call 90; (with_reducible refine H.kc (cAb _ (HT.out.below H.below)) ?_; clear H; intro w H))
   | (go_at_call 93; (with_reducible refine H.kc (c1 _) ?_; clear H; intro w H))
   )
    go_loopw [14, 52] (fun v i wr => ∃ j s : Nat, ∃ q : Int, j + 1 ≤ 1 ∧ i = .int .i64 j ∧ v = .int .u8 q ∧ Hid ((s, q) = sumF F (l.take (j + 1))) ∧ Own w0 wr [(gs, 27, bc s), (gr, 27, #[.int .u64 0, .int .u64 0])]) (fun _ i _ => 1 + 1 - (intOf i).toNat)
    case atStart => exact ⟨0, b, 0, by omega, rfl, rfl, h1.out.symm, H.sub v4_⟩
    case round =>
     clear H h1
     obtain ⟨j, s, q, hj, rfl, rfl, hs, H⟩ := hrel
     by_cases hjt : j + 1 < 1
     ·exact absurd hjt (by omega)
     ·obtain rfl : j = 0 := by omega
      have hd2 : decide ((0 : Int) < 0) = false := by decide
      have h2 := hs.out
      rw [take_all l (0 + 1) (by rw [hn.out]; exact Nat.le_refl _)] at h2
      have h3 := Lib.hid h2
      clear h2 hs
      go_wp2_with (first
   | ((with_reducible refine g11_ rfl rfl ?_); refine H.xa ?_; (intro gs w H; simp only [Act.put, q1_, q2_, q3_]))
   | ((with_reducible refine g0_ rfl ?_); refine H.xb ?_; (intro g w H; simp only [Act.put, q1_, q2_, q3_]))
   | ((with_reducible refine g1_ rfl ?_); refine H.xa ?_; (intro g w H; simp only [Act.put, q1_, q2_, q3_]))
   | ((with_reducible refine g2_ rfl ?_); (first | refine H.xl ?_ | refine H.xm ?_); simp only [Act.put, q1_, q2_, q3_])
   | ((with_reducible refine g3_ rfl ?_); (first | refine H.xs ?_ | refine H.xt ?_); (intro w H; simp only [Act.put]))
   | ((with_reducible refine g4_ rfl ?_); refine H.lde hB hb ?_; simp only [Act.put, q1_, q2_, q3_])
   | (go_at_call 91; (with_reducible refine H.kc (cO _ (HT.out.below H.below)) ?_; clear H; intro w H))
   | (go_at_call 92; (with_reducible refine H.kc (cTb _) ?_; clear H; intro w H))
   | (go_at_call 90; (with_reducible refine H.kc (cAb _ (HT.out.below H.below)) ?_; clear H; intro w H))
   | (go_at_call 93; (with_reducible refine H.kc (c1 _) ?_; clear H; intro w H))
   )
      all_goals
       refine bodyPost_ret (results_ctt rfl rfl (H.res rB v2_ v3_ (by rfl))) rfl ⟨?_, H.below⟩
       rw [hR3.out, ← h3.out]
       rfl
   ·skip
    go_wp2_with (first
   | ((with_reducible refine g11_ rfl rfl ?_); refine H.xa ?_; (intro gs w H; simp only [Act.put, q1_, q2_, q3_]))
   | ((with_reducible refine g0_ rfl ?_); refine H.xb ?_; (intro g w H; simp only [Act.put, q1_, q2_, q3_]))
   | ((with_reducible refine g1_ rfl ?_); refine H.xa ?_; (intro g w H; simp only [Act.put, q1_, q2_, q3_]))
   | ((with_reducible refine g2_ rfl ?_); (first | refine H.xl ?_ | refine H.xm ?_); simp only [Act.put, q1_, q2_, q3_])
   | ((with_reducible refine g3_ rfl ?_); (first | refine H.xs ?_ | refine H.xt ?_); (intro w H; simp only [Act.put]))
   | ((with_reducible refine g4_ rfl ?_); refine H.lde hB hb ?_; simp only [Act.put, q1_, q2_, q3_])
   | (go_at_call 91; (with_reducible refine H.kc (cO _ (HT.out.below H.below)) ?_; clear H; intro w H))
   | (go_at_call 92; (with_reducible refine H.kc (cTb _) ?_; clear H; intro w H))
   | (go_at_call 90; (with_reducible refine H.kc (cAb _ (HT.out.below H.below)) ?_; clear H; intro w H))
   | (go_at_call 93; (with_reducible refine H.kc (c1 _) ?_; clear H; intro w H))
   )
    go_loopw [14, 52] (fun v i wr => ∃ j s : Nat, ∃ q : Int, j + 1 ≤ k ∧ i = .int .i64 j ∧ v = .int .u8 q ∧ Hid ((s, q) = sumF F (l.take (j + 1))) ∧ Own w0 wr [(gs, 27, bc s), (gr, 27, #[.int .u64 0, .int .u64 0])]) (fun _ i _ => k + 1 - (intOf i).toNat)
    case atStart => exact ⟨0, b, 0, by omega, rfl, rfl, h1.out.symm, H.sub v4_⟩
    case round =>
     clear H h1
     obtain ⟨j, s, q, hj, rfl, rfl, hs, H⟩ := hrel
     by_cases hjt : j + 1 < k
     ·obtain ⟨b, hb⟩ : ∃ b, l[j + 1]? = some b := ⟨_, List.getElem?_eq_getElem (by rw [hn.out]; exact hjt)⟩
      have hd2 : decide ((j : Int) < ((k - 1 : Nat) : Int)) = true := by simp; omega
      have hslt : s < 2 ^ (64 * 2) := by have := sumF_lt F (l.take (j + 1)) (fun b hb => hl.out b (List.mem_of_mem_take hb)); rw [← hs.out] at this; exact this
      have cAb := fun w => cA s b w hslt (hl.out b (List.mem_of_getElem? hb))
      have h1 := Lib.hid (sumF_next F l (j + 1) b (by omega) hb)
      clear hslt
      go_wp2_with (first
   | ((with_reducible refine g11_ rfl rfl ?_); refine H.xa ?_; (intro gs w H; simp only [Act.put, q1_, q2_, q3_]))
   | ((with_reducible refine g0_ rfl ?_); refine H.xb ?_; (intro g w H; simp only [Act.put, q1_, q2_, q3_]))
   | ((with_reducible refine g1_ rfl ?_); refine H.xa ?_; (intro g w H; simp only [Act.put, q1_, q2_, q3_]))
   | ((with_reducible refine g2_ rfl ?_); (first | refine H.xl ?_ | refine H.xm ?_); simp only [Act.put, q1_, q2_, q3_])
   | ((with_reducible refine g3_ rfl ?_); (first | refine H.xs ?_ | refine H.xt ?_); (intro w H; simp only [Act.put]))
   | ((with_reducible refine g4_ rfl ?_); refine H.lde hB hb ?_; simp only [Act.put, q1_, q2_, q3_])
   | (go_at_call 91; (with_reducible refine H.kc (cO _ (HT.out.below H.below)) ?_; clear H; intro w H))
   | (go_at_call 92; (with_reducible refine H.kc (cTb _) ?_; clear H; intro w H))
   | (go_at_call 90; (with_reducible refine H.kc (cAb _ (HT.out.below H.below)) ?_; clear H; intro w H))
   | (go_at_call 93; (with_reducible refine H.kc (c1 _) ?_; clear H; intro w H))
   )
      all_goals
       go_roundw
       case rel => exact ⟨j + 1, (F s b).1 % 2 ^ (64 * 2), Go.bits .or .u8 q ((F s b).2.1 : Nat), by omega, by go_num, rfl, (by show _ = sumF F _; rw [h1.out, ← hs.out]; rfl), (by have := bv_mod (F s b).1; injection this with e; unfold bc; rw [e]; exact H.sub (by repeat (first | with_reducible exact List.Sublist.refl _ | with_reducible apply List.Sublist.cons_cons | with_reducible apply List.Sublist.cons)))⟩
       case measure => first | (simp [intOf]; omega) | simp [intOf]
     ·obtain rfl : k = j + 1 := by omega
      have hd2 : decide ((j : Int) < ((j + 1 - 1 : Nat) : Int)) = false := by first | (simp; done) | (simp; omega)
      have h2 := hs.out
      rw [take_all l (j + 1) (by rw [hn.out]; exact Nat.le_refl _)] at h2
      have h3 := Lib.hid h2
      clear h2 hs
      go_wp2_with (first
   | ((with_reducible refine g11_ rfl rfl ?_); refine H.xa ?_; (intro gs w H; simp only [Act.put, q1_, q2_, q3_]))
   | ((with_reducible refine g0_ rfl ?_); refine H.xb ?_; (intro g w H; simp only [Act.put, q1_, q2_, q3_]))
   | ((with_reducible refine g1_ rfl ?_); refine H.xa ?_; (intro g w H; simp only [Act.put, q1_, q2_, q3_]))
   | ((with_reducible refine g2_ rfl ?_); (first | refine H.xl ?_ | refine H.xm ?_); simp only [Act.put, q1_, q2_, q3_])
   | ((with_reducible refine g3_ rfl ?_); (first | refine H.xs ?_ | refine H.xt ?_); (intro w H; simp only [Act.put]))
   | ((with_reducible refine g4_ rfl ?_); refine H.lde hB hb ?_; simp only [Act.put, q1_, q2_, q3_])
   | (go_at_call 91; (with_reducible refine H.kc (cO _ (HT.out.below H.below)) ?_; clear H; intro w H))
   | (go_at_call 92; (with_reducible refine H.kc (cTb _) ?_; clear H; intro w H))
   | (go_at_call 90; (with_reducible refine H.kc (cAb _ (HT.out.below H.below)) ?_; clear H; intro w H))
   | (go_at_call 93; (with_reducible refine H.kc (c1 _) ?_; clear H; intro w H))
   )
      all_goals
       refine bodyPost_ret (results_ctt rfl rfl (H.res rB v2_ v3_ (by rfl))) rfl ⟨?_, H.below⟩
       rw [hR3.out, ← h3.out]
       rfl
theorem bit_t (a i : Nat) (h : a.testBit i = true) : a % 2 ^ (i + 1) = a % 2 ^ i + 2 ^ i := by
 rw [mod_split]
 rw [Nat.testBit_eq_decide_div_mod_eq, decide_eq_true_iff] at h
 rw [h, Nat.mul_one]
theorem bit_f (a i : Nat) (h : a.testBit i = false) : a % 2 ^ (i + 1) = a % 2 ^ i := by
 rw [mod_split]
 rw [Nat.testBit_eq_decide_div_mod_eq, decide_eq_false_iff_not] at h
 have : a / 2 ^ i % 2 < 2 := Nat.mod_lt _ (by decide)
 rw [show a / 2 ^ i % 2 = 0 by omega, Nat.mul_zero, Nat.add_zero]
theorem pow_parts (i n : Nat) (h : n ≤ i) : 2 ^ i = 2 ^ (i - n) * 2 ^ n := by rw [← Nat.pow_add]; congr 1; omega
theorem right_t (a n i : Nat) (h : a.testBit i = true) (hn : n ≤ i) : a % 2 ^ (i + 1) / 2 ^ n = a % 2 ^ i / 2 ^ n + 2 ^ (i - n) ∧ a % 2 ^ i / 2 ^ n < 2 ^ (i - n) := by
 constructor
 ·rw [bit_t a i h, pow_parts i n hn, Nat.add_mul_div_right _ _ (two_pos n)]
 ·rw [Nat.div_lt_iff_lt_mul (two_pos n), ← pow_parts i n hn]; exact Nat.mod_lt _ (two_pos i)
theorem right_lo (a n i : Nat) (hn : i ≤ n) : a % 2 ^ i / 2 ^ n = 0 :=
 Nat.div_eq_of_lt (Nat.lt_of_lt_of_le (Nat.mod_lt _ (two_pos i)) (Nat.pow_le_pow_right (by decide) hn))
def lostRi (a n i : Nat) : Bool := decide (a % 2 ^ min i n ≠ 0)
theorem lostRi_zero (a n : Nat) : lostRi a n 0 = false := by unfold lostRi; rw [Nat.zero_min, Nat.pow_zero, Nat.mod_one]; rfl
theorem lostRi_ge (a n i : Nat) (hn : n ≤ i) : lostRi a n (i + 1) = lostRi a n i := by unfold lostRi; rw [show min (i + 1) n = min i n by omega]
theorem lostRi_f (a n i : Nat) (h : a.testBit i = false) : lostRi a n (i + 1) = lostRi a n i := by
 rcases Nat.lt_or_ge i n with hi | hi
 ·unfold lostRi; rw [show min (i + 1) n = i + 1 by omega, show min i n = i by omega, bit_f a i h]
 ·exact lostRi_ge a n i hi
theorem lostRi_t (a n i : Nat) (h : a.testBit i = true) (hi : i < n) : lostRi a n (i + 1) = true := by
 unfold lostRi; rw [show min (i + 1) n = i + 1 by omega, bit_t a i h, decide_eq_true_iff]
 have := two_pos i; omega
theorem lostRi_all (a n i : Nat) (hn : n ≤ i) : lostRi a n i = decide (a % 2 ^ n ≠ 0) := by unfold lostRi; rw [Nat.min_eq_right hn]
def leftV (a n i : Nat) : Nat := a % 2 ^ i * 2 ^ n % top6
theorem leftV_zero (a n : Nat) : leftV a n 0 = 0 := by unfold leftV; rw [Nat.pow_zero, Nat.mod_one, Nat.zero_mul, Nat.zero_mod]
theorem top6_ge (i n : Nat) (h : i + n ≤ 384) : 2 ^ i * 2 ^ n ≤ top6 := by
 obtain ⟨k, hk⟩ : ∃ k, k = 64 * 6 := ⟨_, rfl⟩
 have e : ∀ k, k = 64 * 6 → top6 = 2 ^ k := by intro k hk; subst hk; exact top6.eq_1
 rw [e k hk, ← Nat.pow_add]
 exact Nat.pow_le_pow_right (by decide) (by omega)
theorem leftV_f (a n i : Nat) (h : a.testBit i = false) : leftV a n (i + 1) = leftV a n i := by unfold leftV; rw [bit_f a i h]
theorem leftV_t (a n i : Nat) (h : a.testBit i = true) (hi : i + n < 384) : leftV a n (i + 1) = leftV a n i + 2 ^ (i + n) ∧ leftV a n i < 2 ^ (i + n) := by
 have h1 : a % 2 ^ i * 2 ^ n < 2 ^ (i + n) := by rw [Nat.pow_add]; exact Nat.mul_lt_mul_of_pos_right (Nat.mod_lt _ (two_pos i)) (two_pos n)
 have h2 : 2 ^ (i + n) + 2 ^ (i + n) ≤ top6 := by
  have := top6_ge (i + 1) n (by omega)
  rw [← Nat.pow_add, show i + 1 + n = (i + n) + 1 by omega, Nat.pow_succ] at this; omega
 unfold leftV
 rw [bit_t a i h, Nat.add_mul, ← Nat.pow_add]
 generalize a % 2 ^ i * 2 ^ n = x at *
 generalize 2 ^ (i + n) = y at *
 rw [Nat.mod_eq_of_lt (show x + y < top6 by omega), Nat.mod_eq_of_lt (show x < top6 by omega)]
 exact ⟨rfl, h1⟩
theorem leftV_o (a n i : Nat) (h : a.testBit i = true) (hi : 384 ≤ i + n) : leftV a n (i + 1) = leftV a n i := by
 unfold leftV
 rw [bit_t a i h, Nat.add_mul, ← Nat.pow_add, show i + n = 64 * 6 + (i + n - 384) by omega, Nat.pow_add, ← top6.eq_1, Nat.add_mul_mod_self_left]
def lostLi (a n i : Nat) : Bool := decide (2 ^ (384 - n) ≤ a % 2 ^ i)
theorem lostLi_lo (a n i : Nat) (hi : i + n ≤ 384) : lostLi a n i = false := by
 unfold lostLi; rw [decide_eq_false_iff_not, Nat.not_le]
 exact Nat.lt_of_lt_of_le (Nat.mod_lt _ (two_pos i)) (Nat.pow_le_pow_right (by decide) (by omega))
theorem lostLi_f (a n i : Nat) (h : a.testBit i = false) : lostLi a n (i + 1) = lostLi a n i := by unfold lostLi; rw [bit_f a i h]
theorem lostLi_t (a n i : Nat) (h : a.testBit i = true) (hi : 384 ≤ i + n) : lostLi a n (i + 1) = true := by
 unfold lostLi; rw [bit_t a i h, decide_eq_true_iff]
 have : 2 ^ (384 - n) ≤ 2 ^ i := Nat.pow_le_pow_right (by decide) (by omega)
 omega
theorem mod_384 (a k : Nat) (hk : k = 384) (ha : a < top6) : a % 2 ^ k = a := Nat.mod_eq_of_lt (by rw [hk, show 384 = 64 * 6 from rfl, ← top6.eq_1]; exact ha)
theorem leftV_all (a n k : Nat) (hk : k = 384) (ha : a < top6) : leftV a n k = a * 2 ^ n % top6 := by unfold leftV; rw [mod_384 a k hk ha]
theorem pow_top (n : Nat) (hn : n ≤ 384) : top6 = 2 ^ (384 - n) * 2 ^ n := by rw [← Nat.pow_add, top6.eq_1, show 384 - n + n = 64 * 6 by omega]
theorem lostLi_all (a n k : Nat) (hk : k = 384) (ha : a < top6) (hn : n ≤ 384) : lostLi a n k = decide (top6 ≤ a * 2 ^ n) := by
 unfold lostLi; rw [mod_384 a k hk ha, pow_top n hn, decide_eq_decide]
 exact ⟨fun h => Nat.mul_le_mul_right _ h, fun h => Nat.le_of_mul_le_mul_right h (two_pos n)⟩
theorem mask_step (i : Nat) : 2 ^ (i + 1) - 1 = (2 ^ i - 1) + 2 ^ i ∧ 2 ^ i - 1 < 2 ^ i := by
 have := two_pos i
 rw [Nat.pow_succ]; omega
theorem low_any (a n : Nat) (ha : a < top6) (hn : n ≤ 384) : decide (a % 2 ^ n ≠ 0) = lostR a n := by
 unfold lostR
 by_cases h : a = 0
 ·subst h; simp
 ·obtain ⟨m, h1, h2⟩ := lowN_spec a ha h
  generalize lowN a = l at *
  rw [decide_eq_false h, Bool.not_false, Bool.true_and, decide_eq_decide]
  rw [h1]
  constructor
  ·intro h3
   rcases Nat.lt_or_ge l n with h4 | h4
   ·exact h4
   ·exfalso; apply h3
    rw [pow_parts l n h4, Nat.mul_comm (2 ^ (l - n)), Nat.mul_assoc, Nat.mul_mod_right]
  ·intro h3 h4
   obtain ⟨d, rfl⟩ : ∃ d, n = l + (d + 1) := ⟨n - l - 1, by omega⟩
   rw [Nat.pow_add, Nat.mul_mod_mul_left] at h4
   have h5 := two_pos l
   have h6 : (2 * m + 1) % 2 ^ (d + 1) = 0 := by rcases Nat.mul_eq_zero.1 h4 with h | h; omega; exact h
   rw [Nat.pow_succ, Nat.mul_comm (2 ^ d), Nat.mod_mul] at h6
   have h7 : (2 * m + 1) % 2 = 1 := by omega
   omega
theorem set_bit_at (t p i s : Nat) (ht : t < 2 ^ p) (hp : p = 64 * i + s) (hs : s < 64) (hi : i < 6) :
  setRow (limbs t) i (#[.int .u64 (Go.bits .or .u64 (limb t i) (IntKind.u64.wrap (2 ^ s)))] : Array Value).toList = limbs (t + 2 ^ p) := by
 subst hp
 exact limbs_top t i s ht hs hi
theorem set_limbsR (a b : Nat) : setRow (limbs a) 0 (limbs b).toList = limbs b := set_all _ _ rfl
theorem run_index_r (a k : Nat) (hk : k < 6) (w : World) : (Instr.index 60 (.agg (limbs a)) (.int .i64 (k : Int))).run Tryz.prog w = .ok (.int .u64 (limb a k)) w := run_index_wide w a k hk
theorem set_w0 (b : Nat) : setRow (limbs 0) 0 (#[.int .u64 (limb b 0)] : Array Value).toList = limbs (limbN b 0) := by
 have h := limbs_put 0 (limbN b 0) 0 (by decide) (by decide) (limbN_lt b 0)
 rw [Nat.zero_add, Nat.mul_zero, Nat.pow_zero, Nat.mul_one] at h
 exact h
theorem set_w1 (b : Nat) : setRow (limbs (limbN b 0)) 1 (#[.int .u64 (limb b 1)] : Array Value).toList = limbs (b % 2 ^ (64 * 2)) := by
 have h := limbs_put (limbN b 0) (limbN b 1) 1 (by decide) (by rw [Nat.mul_one, ← B64]; exact limbN_lt b 0) (limbN_lt b 1)
 rw [mod_low b 1, mod_low b 0, Nat.mul_zero, Nat.pow_zero, Nat.mod_one, Nat.zero_add, Nat.mul_one]
 exact h
theorem ofBits_ret (b : Nat) (hb : b < 2 ^ (64 * 2)) : W (b % 2 ^ (64 * 2)) = W b := by rw [Nat.mod_eq_of_lt hb]
theorem shr_test (x i : Nat) (hx : x < 18446744073709551616) (hi : i < 64) : (Go.bits .and .u64 (((x / 2 ^ i : Nat) : Int)) 1 == 1) = x.testBit i := by
 have hd : x / 2 ^ i < 18446744073709551616 := Nat.lt_of_le_of_lt (Nat.div_le_self _ _) hx
 have := u64_and_nat (x / 2 ^ i) 1 hd (by decide)
 rw [show ((1 : Nat) : Int) = 1 from rfl] at this
 rw [this, Nat.and_one_is_mod, Nat.testBit_eq_decide_div_mod_eq, Bool.eq_iff_iff, beq_iff_eq, decide_eq_true_iff]
 omega
theorem r1Bit_any (x i : Nat) (w : World) (hx : x < 18446744073709551616) (hi : i < 64) :
  CR_ 139 #[.int .u64 x, .int .i64 i] w (.bool (x.testBit i)) := by
 have H := Own.start w
 have e1 : (0 : Int) ≤ (i : Int) := by omega
 have e2 : (i : Int) < 64 := by omega
 have e3 : IntKind.u64.wrap (i : Int) = (i : Int) := by rw [IntKind.wrap_u64]; omega
 have e4 : min (i : Int).toNat 64 = i := by omega
 have HR := Lib.hid (shr_test x i hx hi)
 clear hx hi
 go_enter Tryz.func139, Tryz.ntmps139
 exact walk1
theorem r2Count_lo (x : Int) (w : World) (hx : x < 0) :
  CR_ 216 #[.int .i64 x] w (.int .i64 0) := by
 have H := Own.start w
 go_enter Tryz.func216, Tryz.ntmps216
 exact walk1
theorem r2Count_hi (x : Int) (w : World) (hx : 384 < x) :
  CR_ 216 #[.int .i64 x] w (.int .i64 384) := by
 have H := Own.start w
 go_enter Tryz.func216, Tryz.ntmps216
 exact walk1
theorem r2Count_in (x : Int) (w : World) (hx : 0 ≤ x) (hy : x ≤ 384) :
  CR_ 216 #[.int .i64 x] w (.int .i64 x) := by
 have H := Own.start w
 go_enter Tryz.func216, Tryz.ntmps216
 exact walk1
theorem r2Count_any (x : Int) (w : World) : CR_ 216 #[.int .i64 x] w (.int .i64 (clip x : Nat)) := by
 rcases Int.lt_or_le x 0 with h | h
 ·rw [show ((clip x : Nat) : Int) = 0 by unfold clip; omega]; exact r2Count_lo x w h
 ·rcases Int.lt_or_le 384 x with h2 | h2
  ·rw [show ((clip x : Nat) : Int) = 384 by unfold clip; omega]; exact r2Count_hi x w h2
  ·rw [show ((clip x : Nat) : Int) = x by unfold clip; omega]; exact r2Count_in x w h h2
theorem r2OfBits_any (b : Nat) (w : World) (hb : b < 2 ^ (64 * 2)) :
  CR_ 126 #[BV b] w (W b) := by
 have H := Own.start w
 have HR := Lib.hid (ofBits_ret b hb)
 clear hb
 go_enter Tryz.func126, Tryz.ntmps126
 exact walk3
theorem r2Bit_any (a i : Nat) (w : World) (hi : i < 384) :
  CR_ 192 #[W a, .int .i64 i] w (.bool (a.testBit i)) := by
 have H := Own.start w
 obtain ⟨q, hq⟩ : ∃ q : Nat, i / 64 = q := ⟨_, rfl⟩
 obtain ⟨r, hr⟩ : ∃ r : Nat, i % 64 = r := ⟨_, rfl⟩
 have h6 : q < 6 := by omega
 have h64 : r < 64 := by omega
 have e1 : (0 : Int) ≤ (i : Int) := by omega
 have e2 : (i : Int) < 384 := by omega
 have t1 : IntKind.i64.wrap ((i : Int).tdiv 64) = (q : Int) := by rw [Int.tdiv_eq_ediv_of_nonneg (by omega), show (i : Int) / 64 = (q : Int) by omega]; exact IntWalk.i64_in _ (by omega)
 have t2 : (i : Int).tmod 64 = (r : Int) := by rw [Int.tmod_eq_emod_of_nonneg (by omega)]; omega
 have t3 : (i : Int) / 64 = (q : Int) := by omega
 have t4 : (i : Int) % 64 = (r : Int) := by omega
 have cB := fun w => r1Bit_any (limbN a q) r w (limbN_lt a q) h64
 have hl : ((limbN a q : Nat) : Int) = limb a q := rfl
 rw [hl] at cB
 have HR := Lib.hid (show (limbN a q).testBit r = a.testBit i by rw [← hq, ← hr]; exact limb_bit a i)
 have ix := run_index_r a q h6
 have G : (limbs a)[q]? = some (.int .u64 (limb a q)) := limbs_get a q h6
 clear hq hr hi hl
 go_enter Tryz.func192, Tryz.ntmps192
 exact walk3
theorem set_fill_and (a b k : Nat) : setRow (fillTo (limbs a) (fun i => .int .u64 (limb (a &&& b) i)) k) k (#[.int .u64 (Go.bits .and .u64 (limb a k) (limb b k))] : Array Value).toList = fillTo (limbs a) (fun i => .int .u64 (limb (a &&& b) i)) (k + 1) := by
 rw [limb_and]; rfl
theorem r2Mask_any (x : Int) (w0 : World) :
  CR_ 194 #[.int .i64 x] w0 (W (2 ^ clip x - 1)) := by
 have H := Own.start w0
 have cC := fun w => r2Count_any x w
 obtain ⟨n, hn⟩ : ∃ n, clip x = n := ⟨_, rfl⟩
 have hn4 : n ≤ 384 := by unfold clip at hn; omega
 rw [hn] at cC ⊢
 clear hn
 go_enter Tryz.func194, Tryz.ntmps194
 go_wp2_with (first
  | ((with_reducible show wpList _ _ _ (⟨some 3, .alloc 60, _, _, _, _⟩ :: _) _ _); refine H.xa ?_; (intro gb w H; simp only [Act.put, q1_, q2_, q3_]))
  | ((with_reducible refine g13_ rfl rfl ?_); refine H.xa ?_; (intro gr w H; simp only [Act.put, q1_, q2_, q3_]))
  | ((with_reducible refine g0_ rfl ?_); refine H.xb ?_; (intro g w H; simp only [Act.put, q1_, q2_, q3_]))
  | ((with_reducible refine g1_ rfl ?_); refine H.xa ?_; (intro g w H; simp only [Act.put, q1_, q2_, q3_]))
  | ((with_reducible refine g2_ rfl ?_); (first | refine H.xl ?_ | refine H.xm ?_); simp only [Act.put, q1_, q2_, q3_])
  | ((with_reducible refine g3_ rfl ?_); (first | refine H.xs ?_ | refine H.xt ?_); (intro w H; simp only [Act.put]))
  | (go_at_call 216; (with_reducible refine H.kc (cC _) ?_; clear H; intro w H))
  )
 go_loopw [4] (fun i wr => ∃ (k : Nat), k ≤ n ∧ i = .int .i64 k ∧ Own w0 wr [(gb, 60, limbs (2 ^ k - 1)), (gr, 60, limbs 0)]) (fun i _ => n - (intOf i).toNat)
 case atStart => exact ⟨0, by omega, rfl, H⟩
 case round =>
  clear H
  obtain ⟨k, hk, rfl, H⟩ := hrel
  by_cases hlt : k < n
  ·have hd : decide ((k : Int) < (n : Int)) = true := by simp; omega
   have h1 := Lib.hid (mask_step k).1
   have h2 := Lib.hid (mask_step k).2
   obtain ⟨qi, hqi⟩ : ∃ qi : Nat, (k : Int) / 64 = qi := ⟨k / 64, by omega⟩
   obtain ⟨sh, hsh⟩ : ∃ sh : Nat, (k : Int) % 64 = sh := ⟨k % 64, by omega⟩
   have HM := Lib.hid (show k = 64 * qi + sh by omega)
   have hs64 : sh < 64 := by omega
   have hq6 : qi < 6 := by omega
   have hq6i : (qi : Int) < 6 := by omega
   have t1 : IntKind.i64.wrap ((k : Int).tdiv 64) = (qi : Int) := by rw [Int.tdiv_eq_ediv_of_nonneg (by omega), hqi]; exact IntWalk.i64_in _ (by omega)
   have t2 : (k : Int).tmod 64 = (sh : Int) := by rw [Int.tmod_eq_emod_of_nonneg (by omega), hsh]
   have t3 : IntKind.u64.wrap (sh : Int) = (sh : Int) := by rw [IntKind.wrap_u64]; omega
   have t4 : min sh 64 = sh := by omega
   obtain ⟨V, hV⟩ : ∃ V, 2 ^ k - 1 = V := ⟨_, rfl⟩
   rw [hV] at H h1 h2
   have G : (limbs V)[qi]? = some (.int .u64 (limb V qi)) := limbs_get V qi hq6
   clear hV cC
   go_wp2_with (first
  | ((with_reducible show wpList _ _ _ (⟨some 3, .alloc 60, _, _, _, _⟩ :: _) _ _); refine H.xa ?_; (intro gb w H; simp only [Act.put, q1_, q2_, q3_]))
  | ((with_reducible refine g13_ rfl rfl ?_); refine H.xa ?_; (intro gr w H; simp only [Act.put, q1_, q2_, q3_]))
  | ((with_reducible refine g7_ rfl ?_); refine H.xm ?_ (hv := by first | with_reducible exact G); simp only [Act.put, q1_, q2_, q3_])
  | ((with_reducible refine g9_ rfl ?_); refine H.xt ?_ (hv := set_bit_at _ k _ _ h2.out HM.out hs64 hq6); (intro w H; simp only [Act.put]))
  | ((with_reducible refine g0_ rfl ?_); refine H.xb ?_; (intro g w H; simp only [Act.put, q1_, q2_, q3_]))
  | ((with_reducible refine g1_ rfl ?_); refine H.xa ?_; (intro g w H; simp only [Act.put, q1_, q2_, q3_]))
  | ((with_reducible refine g2_ rfl ?_); (first | refine H.xl ?_ | refine H.xm ?_); simp only [Act.put, q1_, q2_, q3_])
  | ((with_reducible refine g3_ rfl ?_); (first | refine H.xs ?_ | refine H.xt ?_); (intro w H; simp only [Act.put]))
  | (go_at_call 216; (with_reducible refine H.kc (cC _) ?_; clear H; intro w H))
  )
   all_goals
    go_roundw
    case rel => exact ⟨k + 1, by omega, by go_num, by rw [h1.out]; exact H⟩
    case measure => simp [intOf] <;> omega
  ·obtain rfl : k = n := by omega
   have hd : decide ((k : Int) < (k : Int)) = false := by simp
   clear hlt hk cC
   go_wp2_with (first
  | ((with_reducible show wpList _ _ _ (⟨some 3, .alloc 60, _, _, _, _⟩ :: _) _ _); refine H.xa ?_; (intro gb w H; simp only [Act.put, q1_, q2_, q3_]))
  | ((with_reducible refine g13_ rfl rfl ?_); refine H.xa ?_; (intro gr w H; simp only [Act.put, q1_, q2_, q3_]))
  | ((with_reducible refine g0_ rfl ?_); refine H.xb ?_; (intro g w H; simp only [Act.put, q1_, q2_, q3_]))
  | ((with_reducible refine g1_ rfl ?_); refine H.xa ?_; (intro g w H; simp only [Act.put, q1_, q2_, q3_]))
  | ((with_reducible refine g2_ rfl ?_); (first | refine H.xl ?_ | refine H.xm ?_); simp only [Act.put, q1_, q2_, q3_])
  | ((with_reducible refine g3_ rfl ?_); (first | refine H.xs ?_ | refine H.xt ?_); (intro w H; simp only [Act.put]))
  | (go_at_call 216; (with_reducible refine H.kc (cC _) ?_; clear H; intro w H))
  )
   refine bodyPost_ret (results_c rfl rfl (H.res rW v2_ v5_ (by rfl))) rfl ⟨?_, H.below⟩
   rfl
theorem r2And_any (a b : Nat) (w0 : World) :
  CR_ 193 #[W a, W b] w0 (W (a &&& b)) := by
 have H := Own.start w0
 go_enter Tryz.func193, Tryz.ntmps193
 go_wp2_with (first
  | ((with_reducible refine g6_ rfl rfl ?_); refine H.xb ?_; (intro ga w H; simp only [Act.put, q1_, q2_, q3_]))
  | ((with_reducible refine g10_ rfl rfl ?_); refine H.xb ?_; (intro gb w H; simp only [Act.put, q1_, q2_, q3_]))
  | ((with_reducible refine g5_ rfl rfl ?_); refine H.xa ?_; (intro gr w H; simp only [Act.put, q1_, q2_, q3_]))
  | ((with_reducible refine g0_ rfl ?_); refine H.xb ?_; (intro g w H; simp only [Act.put, q1_, q2_, q3_]))
  | ((with_reducible refine g1_ rfl ?_); refine H.xa ?_; (intro g w H; simp only [Act.put, q1_, q2_, q3_]))
  | ((with_reducible refine g2_ rfl ?_); (first | refine H.xl ?_ | refine H.xm ?_); simp only [Act.put, q1_, q2_, q3_])
  | ((with_reducible refine g3_ rfl ?_); (first | refine H.xs ?_ | refine H.xt ?_); (intro w H; simp only [Act.put]))
  )
 go_loopw [5] (fun i wr => ∃ (k : Nat), k ≤ 6 ∧ i = .int .i64 k ∧ Own w0 wr [(gr, 60, limbs 0), (gb, 60, limbs b), (ga, 60, fillTo (limbs a) (fun i => .int .u64 (limb (a &&& b) i)) k)]) (fun i _ => 6 - (intOf i).toNat)
 case atStart => exact ⟨0, by omega, rfl, H⟩
 case round =>
  clear H
  obtain ⟨k, hk, rfl, H⟩ := hrel
  by_cases hlt : k < 6
  ·have hd : decide ((k : Int) < 6) = true := by simp; omega
   have G1 : (fillTo (limbs a) (fun i => .int .u64 (limb (a &&& b) i)) k)[k]? = some (.int .u64 (limb a k)) := (fillTo_hi _ _ _ _ (Nat.le_refl _)).trans (limbs_get a k hlt)
   have G2 : (limbs b)[k]? = some (.int .u64 (limb b k)) := limbs_get b k hlt
   have hlti : (k : Int) < 6 := by omega
   go_wp2_with (first
  | ((with_reducible refine g6_ rfl rfl ?_); refine H.xb ?_; (intro ga w H; simp only [Act.put, q1_, q2_, q3_]))
  | ((with_reducible refine g10_ rfl rfl ?_); refine H.xb ?_; (intro gb w H; simp only [Act.put, q1_, q2_, q3_]))
  | ((with_reducible refine g5_ rfl rfl ?_); refine H.xa ?_; (intro gr w H; simp only [Act.put, q1_, q2_, q3_]))
  | ((with_reducible refine g7_ rfl ?_); refine H.xm ?_ (hv := by first | with_reducible exact G1 | with_reducible exact G2); simp only [Act.put, q1_, q2_, q3_])
  | ((with_reducible refine g9_ rfl ?_); refine H.xt ?_ (hv := set_fill_and _ _ _); (intro w H; simp only [Act.put]))
  | ((with_reducible refine g0_ rfl ?_); refine H.xb ?_; (intro g w H; simp only [Act.put, q1_, q2_, q3_]))
  | ((with_reducible refine g1_ rfl ?_); refine H.xa ?_; (intro g w H; simp only [Act.put, q1_, q2_, q3_]))
  | ((with_reducible refine g2_ rfl ?_); (first | refine H.xl ?_ | refine H.xm ?_); simp only [Act.put, q1_, q2_, q3_])
  | ((with_reducible refine g3_ rfl ?_); (first | refine H.xs ?_ | refine H.xt ?_); (intro w H; simp only [Act.put]))
  | ((with_reducible show Code.wp _ (.region 4 _ true) _ _ _); refine H.heldSub rfl (List.Sublist.cons_cons _ (List.Sublist.cons_cons _ (List.Sublist.cons _ (List.Sublist.refl _)))) ?_; intro H; refine H.zr 0 ?_; (try simp only [Act.put, q1_, q2_, q3_]); (try simp only [q4_, q5_, q6_]); refine H.zr 1 ?_; (try simp only [Act.put, q1_, q2_, q3_]); (try simp only [q4_, q5_, q6_]); refine H.zr 2 ?_; (try simp only [Act.put, q1_, q2_, q3_]); (try simp only [q4_, q5_, q6_]); refine H.zr 4 ?_; (try simp only [Act.put, q1_, q2_, q3_]); (try simp only [q4_, q5_, q6_]); refine H.zr 5 ?_; (try simp only [Act.put, q1_, q2_, q3_]); (try simp only [q4_, q5_, q6_]); (first | refine H.zm 6 ?_ (hv := by first | with_reducible exact G1 | with_reducible exact G2) | refine H.zl 6 ?_ | refine H.zm 6 ?_); (try simp only [Act.put, q1_, q2_, q3_]); (try simp only [q4_, q5_, q6_]); refine held1 3 ?_; (first | refine H.ym ?_ (hv := by first | with_reducible exact G1 | with_reducible exact G2) | refine H.yl ?_ | refine H.ym ?_); refine H.nx ?_; (try simp only [Act.put, q1_, q2_, q3_]); (try simp only [q4_, q5_, q6_]); refine H.zr 7 ?_; (try simp only [Act.put, q1_, q2_, q3_]); (try simp only [q4_, q5_, q6_]); refine H.zr 8 ?_; (try simp only [Act.put, q1_, q2_, q3_]); (try simp only [q4_, q5_, q6_]); refine held1 9 ?_; (first | refine H.yt ?_ (hv := set_fill_and _ _ _) | refine H.ys ?_ | refine H.yt ?_); intro w H; refine H.nx ?_; (try simp only [Act.put]); refine wpAnyH_done (by kernel_rfl) ?_ _)
  )
   all_goals
    go_roundw
    case rel => exact ⟨k + 1, by omega, by go_num, H⟩
    case measure => simp [intOf] <;> omega
  ·obtain rfl : k = 6 := by omega
   rw [fillTo_all (limbs a) _ (a &&& b) (limbs_size a) (fun _ _ => rfl)] at H
   clear hlt hk
   go_wp2_with (first
  | ((with_reducible refine g6_ rfl rfl ?_); refine H.xb ?_; (intro ga w H; simp only [Act.put, q1_, q2_, q3_]))
  | ((with_reducible refine g10_ rfl rfl ?_); refine H.xb ?_; (intro gb w H; simp only [Act.put, q1_, q2_, q3_]))
  | ((with_reducible refine g5_ rfl rfl ?_); refine H.xa ?_; (intro gr w H; simp only [Act.put, q1_, q2_, q3_]))
  | ((with_reducible refine g0_ rfl ?_); refine H.xb ?_; (intro g w H; simp only [Act.put, q1_, q2_, q3_]))
  | ((with_reducible refine g1_ rfl ?_); refine H.xa ?_; (intro g w H; simp only [Act.put, q1_, q2_, q3_]))
  | ((with_reducible refine g2_ rfl ?_); (first | refine H.xl ?_ | refine H.xm ?_); simp only [Act.put, q1_, q2_, q3_])
  | ((with_reducible refine g3_ rfl ?_); (first | refine H.xs ?_ | refine H.xt ?_); (intro w H; simp only [Act.put]))
  )
   refine bodyPost_ret (results_c rfl rfl (H.res rW v2_ v5_ (by rfl))) rfl ⟨?_, H.below⟩
   rfl
theorem r2Right_any (a : Nat) (x : Int) (w0 : World) (ha : a < top6) :
  CR_ 195 #[W a, .int .i64 x] w0 (.tuple #[W (a / 2 ^ clip x), .bool (lostR a (clip x))]) := by
 have H := Own.start w0
 have cC := fun w => r2Count_any x w
 obtain ⟨n, hn⟩ : ∃ n, clip x = n := ⟨_, rfl⟩
 have hn4 : n ≤ 384 := by unfold clip at hn; omega
 rw [hn] at cC ⊢
 clear hn
 have HA := Lib.hid ha
 clear ha
 go_enter Tryz.func195, Tryz.ntmps195
 go_wp2_with (first
  | ((with_reducible refine g6_ rfl rfl ?_); refine H.xb ?_; (intro ga w H; simp only [Act.put, q1_, q2_, q3_]))
  | ((with_reducible refine g5_ rfl rfl ?_); refine H.xa ?_; (intro gr w H; simp only [Act.put, q1_, q2_, q3_]))
  | ((with_reducible refine g8_ rfl rfl ?_); refine H.xa ?_; (intro gb w H; simp only [Act.put, q1_, q2_, q3_]))
  | ((with_reducible refine g0_ rfl ?_); refine H.xb ?_; (intro g w H; simp only [Act.put, q1_, q2_, q3_]))
  | ((with_reducible refine g1_ rfl ?_); refine H.xa ?_; (intro g w H; simp only [Act.put, q1_, q2_, q3_]))
  | ((with_reducible refine g2_ rfl ?_); (first | refine H.xl ?_ | refine H.xm ?_); simp only [Act.put, q1_, q2_, q3_])
  | ((with_reducible refine g3_ rfl ?_); (first | refine H.xs ?_ | refine H.xt ?_); (intro w H; simp only [Act.put]))
  | (go_at_call 216; (with_reducible refine H.kc (cC _) ?_; clear H; intro w H))
  | (go_at_call 192; (with_reducible refine H.kc (cB _) ?_; clear H; intro w H))
  )
 go_loopw [7, 8] (fun l i wr => ∃ (k : Nat), k ≤ 384 ∧ i = .int .i64 k ∧ l = .bool (lostRi a n k) ∧ Own w0 wr [(gb, 60, limbs (a % 2 ^ k / 2 ^ n)), (gr, 60, limbs 0), (ga, 60, limbs a)]) (fun _ i _ => 384 - (intOf i).toNat)
 case atStart => exact ⟨0, by omega, rfl, by rw [lostRi_zero], by rw [Nat.pow_zero, Nat.mod_one, Nat.zero_div]; exact H⟩
 case round =>
  clear H
  obtain ⟨k, hk, rfl, rfl, H⟩ := hrel
  by_cases hlt : k < 384
  ·have hd : decide ((k : Int) < 384) = true := by simp; omega
   have hlti : (k : Int) < 384 := by omega
   have cB := fun w => r2Bit_any a k w hlt
   cases hb : a.testBit k
   ·rw [hb] at cB
    have h1 := Lib.hid (lostRi_f a n k hb)
    have h2 := Lib.hid (bit_f a k hb)
    clear hb cC
    go_wp2_with (first
  | ((with_reducible refine g6_ rfl rfl ?_); refine H.xb ?_; (intro ga w H; simp only [Act.put, q1_, q2_, q3_]))
  | ((with_reducible refine g5_ rfl rfl ?_); refine H.xa ?_; (intro gr w H; simp only [Act.put, q1_, q2_, q3_]))
  | ((with_reducible refine g8_ rfl rfl ?_); refine H.xa ?_; (intro gb w H; simp only [Act.put, q1_, q2_, q3_]))
  | ((with_reducible refine g0_ rfl ?_); refine H.xb ?_; (intro g w H; simp only [Act.put, q1_, q2_, q3_]))
  | ((with_reducible refine g1_ rfl ?_); refine H.xa ?_; (intro g w H; simp only [Act.put, q1_, q2_, q3_]))
  | ((with_reducible refine g2_ rfl ?_); (first | refine H.xl ?_ | refine H.xm ?_); simp only [Act.put, q1_, q2_, q3_])
  | ((with_reducible refine g3_ rfl ?_); (first | refine H.xs ?_ | refine H.xt ?_); (intro w H; simp only [Act.put]))
  | (go_at_call 216; (with_reducible refine H.kc (cC _) ?_; clear H; intro w H))
  | (go_at_call 192; (with_reducible refine H.kc (cB _) ?_; clear H; intro w H))
  )
    all_goals
     go_roundw
     case rel => exact ⟨k + 1, by omega, by go_num, by rw [h1.out], by rw [h2.out]; exact H⟩
     case measure => simp [intOf] <;> omega
   ·rw [hb] at cB
    by_cases hnk : n ≤ k
    ·have h1 := Lib.hid (lostRi_ge a n k hnk)
     have h2 := Lib.hid (right_t a n k hb hnk).1
     have h3 := Lib.hid (right_t a n k hb hnk).2
     obtain ⟨j, hj⟩ : ∃ j, k - n = j := ⟨_, rfl⟩
     have e0 : (k : Int) - (n : Int) = (j : Int) := by omega
     have e1 : IntKind.i64.wrap ((k : Int) - (n : Int)) = (j : Int) := by rw [e0]; exact IntWalk.i64_in _ (by omega)
     have hge : (n : Int) ≤ (k : Int) := by omega
     have hdg : decide ((n : Int) ≤ (k : Int)) = true := by simp; omega
     obtain ⟨qi, hqi⟩ : ∃ qi : Nat, (j : Int) / 64 = qi := ⟨j / 64, by omega⟩
     obtain ⟨sh, hsh⟩ : ∃ sh : Nat, (j : Int) % 64 = sh := ⟨j % 64, by omega⟩
     have HM := Lib.hid (show j = 64 * qi + sh by omega)
     have hs64 : sh < 64 := by omega
     have hq6 : qi < 6 := by omega
     have hq6i : (qi : Int) < 6 := by omega
     have t1 : IntKind.i64.wrap ((j : Int).tdiv 64) = (qi : Int) := by rw [Int.tdiv_eq_ediv_of_nonneg (by omega), hqi]; exact IntWalk.i64_in _ (by omega)
     have t2 : (j : Int).tmod 64 = (sh : Int) := by rw [Int.tmod_eq_emod_of_nonneg (by omega), hsh]
     have t3 : IntKind.u64.wrap (sh : Int) = (sh : Int) := by rw [IntKind.wrap_u64]; omega
     have t4 : min sh 64 = sh := by omega
     rw [hj] at h2 h3
     obtain ⟨V, hV⟩ : ∃ V, a % 2 ^ k / 2 ^ n = V := ⟨_, rfl⟩
     rw [hV] at H h2 h3
     have G : (limbs V)[qi]? = some (.int .u64 (limb V qi)) := limbs_get V qi hq6
     clear hV cC hb hj hnk
     go_wp2_with (first
  | ((with_reducible refine g6_ rfl rfl ?_); refine H.xb ?_; (intro ga w H; simp only [Act.put, q1_, q2_, q3_]))
  | ((with_reducible refine g5_ rfl rfl ?_); refine H.xa ?_; (intro gr w H; simp only [Act.put, q1_, q2_, q3_]))
  | ((with_reducible refine g8_ rfl rfl ?_); refine H.xa ?_; (intro gb w H; simp only [Act.put, q1_, q2_, q3_]))
  | ((with_reducible refine g7_ rfl ?_); refine H.xm ?_ (hv := by first | with_reducible exact G); simp only [Act.put, q1_, q2_, q3_])
  | ((with_reducible refine g9_ rfl ?_); refine H.xt ?_ (hv := set_bit_at _ _ _ _ h3.out HM.out hs64 hq6); (intro w H; simp only [Act.put]))
  | ((with_reducible refine g0_ rfl ?_); refine H.xb ?_; (intro g w H; simp only [Act.put, q1_, q2_, q3_]))
  | ((with_reducible refine g1_ rfl ?_); refine H.xa ?_; (intro g w H; simp only [Act.put, q1_, q2_, q3_]))
  | ((with_reducible refine g2_ rfl ?_); (first | refine H.xl ?_ | refine H.xm ?_); simp only [Act.put, q1_, q2_, q3_])
  | ((with_reducible refine g3_ rfl ?_); (first | refine H.xs ?_ | refine H.xt ?_); (intro w H; simp only [Act.put]))
  | (go_at_call 216; (with_reducible refine H.kc (cC _) ?_; clear H; intro w H))
  | (go_at_call 192; (with_reducible refine H.kc (cB _) ?_; clear H; intro w H))
  )
     all_goals
      go_roundw
      case rel => exact ⟨k + 1, by omega, by go_num, by rw [h1.out], by rw [h2.out]; exact H⟩
      case measure => simp [intOf] <;> omega
    ·have h1 := Lib.hid (lostRi_t a n k hb (by omega))
     have h2 := Lib.hid (show a % 2 ^ (k + 1) / 2 ^ n = a % 2 ^ k / 2 ^ n by rw [right_lo a n (k + 1) (by omega), right_lo a n k (by omega)])
     have hge : (k : Int) < (n : Int) := by omega
     have hdg : decide ((n : Int) ≤ (k : Int)) = false := by simp; omega
     clear cC hb hnk
     go_wp2_with (first
  | ((with_reducible refine g6_ rfl rfl ?_); refine H.xb ?_; (intro ga w H; simp only [Act.put, q1_, q2_, q3_]))
  | ((with_reducible refine g5_ rfl rfl ?_); refine H.xa ?_; (intro gr w H; simp only [Act.put, q1_, q2_, q3_]))
  | ((with_reducible refine g8_ rfl rfl ?_); refine H.xa ?_; (intro gb w H; simp only [Act.put, q1_, q2_, q3_]))
  | ((with_reducible refine g0_ rfl ?_); refine H.xb ?_; (intro g w H; simp only [Act.put, q1_, q2_, q3_]))
  | ((with_reducible refine g1_ rfl ?_); refine H.xa ?_; (intro g w H; simp only [Act.put, q1_, q2_, q3_]))
  | ((with_reducible refine g2_ rfl ?_); (first | refine H.xl ?_ | refine H.xm ?_); simp only [Act.put, q1_, q2_, q3_])
  | ((with_reducible refine g3_ rfl ?_); (first | refine H.xs ?_ | refine H.xt ?_); (intro w H; simp only [Act.put]))
  | (go_at_call 216; (with_reducible refine H.kc (cC _) ?_; clear H; intro w H))
  | (go_at_call 192; (with_reducible refine H.kc (cB _) ?_; clear H; intro w H))
  )
     all_goals
      go_roundw
      case rel => exact ⟨k + 1, by omega, by go_num, by rw [h1.out], by rw [h2.out]; exact H⟩
      case measure => simp [intOf] <;> omega
  ·have hk384 : k = 384 := by omega
   rw [mod_384 a k hk384 HA.out] at H
   have h1 := Lib.hid (show lostRi a n k = lostR a n by rw [lostRi_all a n k (by omega)]; exact low_any a n HA.out hn4)
   generalize lostRi a n k = l at *
   subst hk384
   clear cC hlt hk
   go_wp2_with (first
  | ((with_reducible refine g6_ rfl rfl ?_); refine H.xb ?_; (intro ga w H; simp only [Act.put, q1_, q2_, q3_]))
  | ((with_reducible refine g5_ rfl rfl ?_); refine H.xa ?_; (intro gr w H; simp only [Act.put, q1_, q2_, q3_]))
  | ((with_reducible refine g8_ rfl rfl ?_); refine H.xa ?_; (intro gb w H; simp only [Act.put, q1_, q2_, q3_]))
  | ((with_reducible refine g0_ rfl ?_); refine H.xb ?_; (intro g w H; simp only [Act.put, q1_, q2_, q3_]))
  | ((with_reducible refine g1_ rfl ?_); refine H.xa ?_; (intro g w H; simp only [Act.put, q1_, q2_, q3_]))
  | ((with_reducible refine g2_ rfl ?_); (first | refine H.xl ?_ | refine H.xm ?_); simp only [Act.put, q1_, q2_, q3_])
  | ((with_reducible refine g3_ rfl ?_); (first | refine H.xs ?_ | refine H.xt ?_); (intro w H; simp only [Act.put]))
  | (go_at_call 216; (with_reducible refine H.kc (cC _) ?_; clear H; intro w H))
  | (go_at_call 192; (with_reducible refine H.kc (cB _) ?_; clear H; intro w H))
  )
   refine bodyPost_ret (results_ct rfl rfl (H.res rW v2_ (ext_limbs _) (by rfl))) rfl ⟨?_, H.below⟩
   rw [h1.out]; rfl
theorem r7Width_0 (w : World) :
  CR_ 127 #[.int .u8 0] w (.int .i64 32) := by
 have H := Own.start w
 go_enter Tryz.func127, Tryz.ntmps127
 exact walk1
theorem r7Width_1 (w : World) :
  CR_ 127 #[.int .u8 1] w (.int .i64 64) := by
 have H := Own.start w
 go_enter Tryz.func127, Tryz.ntmps127
 exact walk1
theorem r7Width_2 (w : World) :
  CR_ 127 #[.int .u8 2] w (.int .i64 16) := by
 have H := Own.start w
 go_enter Tryz.func127, Tryz.ntmps127
 exact walk1
theorem r7Width_3 (w : World) :
  CR_ 127 #[.int .u8 3] w (.int .i64 128) := by
 have H := Own.start w
 go_enter Tryz.func127, Tryz.ntmps127
 exact walk1
theorem r7Width_o (f : Nat) (w : World) (h2 : ((f : Int) == 2) = false) (h0 : ((f : Int) == 0) = false) (h1 : ((f : Int) == 1) = false) (h3 : ((f : Int) == 3) = false) :
  CR_ 127 #[.int .u8 f] w (.int .i64 0) := by
 have H := Own.start w
 go_enter Tryz.func127, Tryz.ntmps127
 exact walk1
theorem r7Width_any (f : Nat) (w : World) : CR_ 127 #[.int .u8 f] w (.int .i64 (wF f : Nat)) := by
 rcases forms f with rfl | rfl | rfl | rfl | h
 ·exact r7Width_0 w
 ·exact r7Width_1 w
 ·exact r7Width_2 w
 ·exact r7Width_3 w
 ·have := r7Width_o f w (int_eq_false f 2 (by omega)) (int_eq_false f 0 (by omega)) (int_eq_false f 1 (by omega)) (int_eq_false f 3 (by omega))
  rw [show wF f = 0 by have := wF_big f h; simp [this]]
  exact this
theorem r7Precision_0 (w : World) :
  CR_ 166 #[.int .u8 0] w (.int .i64 24) := by
 have H := Own.start w
 go_enter Tryz.func166, Tryz.ntmps166
 exact walk1
theorem r7Precision_1 (w : World) :
  CR_ 166 #[.int .u8 1] w (.int .i64 53) := by
 have H := Own.start w
 go_enter Tryz.func166, Tryz.ntmps166
 exact walk1
theorem r7Precision_2 (w : World) :
  CR_ 166 #[.int .u8 2] w (.int .i64 11) := by
 have H := Own.start w
 go_enter Tryz.func166, Tryz.ntmps166
 exact walk1
theorem r7Precision_3 (w : World) :
  CR_ 166 #[.int .u8 3] w (.int .i64 113) := by
 have H := Own.start w
 go_enter Tryz.func166, Tryz.ntmps166
 exact walk1
theorem r7Precision_o (f : Nat) (w : World) (h2 : ((f : Int) == 2) = false) (h0 : ((f : Int) == 0) = false) (h1 : ((f : Int) == 1) = false) (h3 : ((f : Int) == 3) = false) :
  CR_ 166 #[.int .u8 f] w (.int .i64 0) := by
 have H := Own.start w
 go_enter Tryz.func166, Tryz.ntmps166
 exact walk1
theorem r7Precision_any (f : Nat) (w : World) : CR_ 166 #[.int .u8 f] w (.int .i64 (pF f : Nat)) := by
 rcases forms f with rfl | rfl | rfl | rfl | h
 ·exact r7Precision_0 w
 ·exact r7Precision_1 w
 ·exact r7Precision_2 w
 ·exact r7Precision_3 w
 ·have := r7Precision_o f w (int_eq_false f 2 (by omega)) (int_eq_false f 0 (by omega)) (int_eq_false f 1 (by omega)) (int_eq_false f 3 (by omega))
  rw [show pF f = 0 by have := wF_big f h; simp [this]]
  exact this
theorem r7Emax_0 (w : World) :
  CR_ 178 #[.int .u8 0] w (.int .i64 127) := by
 have H := Own.start w
 go_enter Tryz.func178, Tryz.ntmps178
 exact walk1
theorem r7Emax_1 (w : World) :
  CR_ 178 #[.int .u8 1] w (.int .i64 1023) := by
 have H := Own.start w
 go_enter Tryz.func178, Tryz.ntmps178
 exact walk1
theorem r7Emax_2 (w : World) :
  CR_ 178 #[.int .u8 2] w (.int .i64 15) := by
 have H := Own.start w
 go_enter Tryz.func178, Tryz.ntmps178
 exact walk1
theorem r7Emax_3 (w : World) :
  CR_ 178 #[.int .u8 3] w (.int .i64 16383) := by
 have H := Own.start w
 go_enter Tryz.func178, Tryz.ntmps178
 exact walk1
theorem r7Emax_o (f : Nat) (w : World) (h2 : ((f : Int) == 2) = false) (h0 : ((f : Int) == 0) = false) (h1 : ((f : Int) == 1) = false) (h3 : ((f : Int) == 3) = false) :
  CR_ 178 #[.int .u8 f] w (.int .i64 0) := by
 have H := Own.start w
 go_enter Tryz.func178, Tryz.ntmps178
 exact walk1
theorem r7Emax_any (f : Nat) (w : World) : CR_ 178 #[.int .u8 f] w (.int .i64 (eF f : Nat)) := by
 rcases forms f with rfl | rfl | rfl | rfl | h
 ·exact r7Emax_0 w
 ·exact r7Emax_1 w
 ·exact r7Emax_2 w
 ·exact r7Emax_3 w
 ·have := r7Emax_o f w (int_eq_false f 2 (by omega)) (int_eq_false f 0 (by omega)) (int_eq_false f 1 (by omega)) (int_eq_false f 3 (by omega))
  rw [show eF f = 0 by have := wF_big f h; simp [this]]
  exact this
theorem r7Ones_any (f : Nat) (w : World) :
  CR_ 168 #[.int .u8 f] w (.int .i64 (2 * eF f + 1 : Nat)) := by
 have H := Own.start w
 have he := eF_le f
 have HR := Lib.hid (show (2 * (eF f : Int) + 1) = ((2 * eF f + 1 : Nat) : Int) by omega)
 go_enter Tryz.func168, Tryz.ntmps168
 exact walk3
theorem r7Right_any (f : Nat) (w : World) :
  CR_ 62 #[.int .u8 f] w (.bool (decide (f < 4))) := by
 have H := Own.start w
 go_enter Tryz.func62, Tryz.ntmps62
 exact walk1
theorem r7RightMode_any (f : Nat) (w : World) :
  CR_ 49 #[.int .u8 f] w (.bool (decide (f < 5))) := by
 have H := Own.start w
 go_enter Tryz.func49, Tryz.ntmps49
 exact walk1
theorem r7Emin_t (f : Nat) (w : World) (hf : f < 4) :
  CR_ 210 #[.int .u8 f] w (.int .i64 (1 - (eF f : Nat))) := by
 have H := Own.start w
 have he := eF_le f
 have cR := fun w => r7Right_any f w
 rw [decide_eq_true hf] at cR
 clear hf
 go_enter Tryz.func210, Tryz.ntmps210
 exact walk3
theorem r7Emin_f (f : Nat) (w : World) (hf : ¬ f < 4) :
  CR_ 210 #[.int .u8 f] w (.int .i64 (0)) := by
 have H := Own.start w
 have he := eF_le f
 have cR := fun w => r7Right_any f w
 rw [decide_eq_false hf] at cR
 clear hf
 go_enter Tryz.func210, Tryz.ntmps210
 exact walk3
theorem r7Emin_any (f : Nat) (w : World) : CR_ 210 #[.int .u8 f] w (.int .i64 (eminI f)) := by
 unfold eminI
 by_cases hf : f < 4
 ·rw [decide_eq_true hf]; exact r7Emin_t f w hf
 ·rw [decide_eq_false hf]; exact r7Emin_f f w hf
theorem results_ttc {P : Program} {w : World} {fn : Func} {tmps : Array Value} {s t u : Tmp} {T : TypeId} (h : fn.results = #[.tmp s, .tmp u, .cell t T]) {A : Addr} (ha : tmps.getD t undef = .pointer (some A)) {v : Value} (hr : (loadVar T A).run P w = .ok v w) :
  (results fn tmps).run P w = .ok (.tuple #[tmps.getD s undef, tmps.getD u undef, v]) w := by
 rw [Array.getD_eq_getD_getElem?] at ha
 simp [results, h, ha, asAddr, hr]
theorem exp_ones (y d : Nat) (hd : d ≤ 15) : Go.bits .and .i64 (IntKind.i64.wrap (limb y 0)) ((2 ^ d - 1 : Nat) : Int) = ((y % 2 ^ d : Nat) : Int) := by
 have h := field_exp y d hd
 have y1 : 2 ^ d ≤ 2 ^ 15 := Nat.pow_le_pow_right (by decide) hd
 have e : IntKind.i64.wrap (IntKind.i64.wrap ((2 : Int) ^ d) - 1) = ((2 ^ d - 1 : Nat) : Int) := by
  have y0 := Nat.two_pow_pos d
  rw [show (2 : Int) ^ d = ((2 ^ d : Nat) : Int) by simp, IntKind.wrap_i64, IntKind.wrap_i64]
  generalize 2 ^ d = y at *
  omega
 rw [e] at h; exact h
set_option maxHeartbeats 6400000 in
theorem r7Fields_w (f b q r p n o y m t : Nat) (tb lo : Bool) (w : World) (hq : IntKind.i64.wrap ((p : Int) - 1) = (q : Int)) (hr : IntKind.i64.wrap ((n : Int) - 1) = (r : Int)) (cF : CK_ 126 #[BV b] (W b)) (cW : CK_ 127 #[.int .u8 f] (.int .i64 (n : Nat))) (cP : CK_ 166 #[.int .u8 f] (.int .i64 (p : Nat))) (cB : CK_ 192 #[W b, .int .i64 (r : Nat)] (.bool tb)) (cM : CK_ 194 #[.int .i64 (q : Nat)] (W m)) (cA : CK_ 193 #[W b, W m] (W t)) (cR : CK_ 195 #[W b, .int .i64 (q : Nat)] (.tuple #[W y, .bool lo])) (cO : CK_ 168 #[.int .u8 f] (.int .i64 (o : Nat))) :
  CR_ 128 #[.int .u8 f, BV b] w (.tuple #[.bool tb, .int .i64 (Go.bits .and .i64 (IntKind.i64.wrap (limb y 0)) (o : Nat)), W t]) := by
 have H := Own.start w
 go_enter Tryz.func128, Tryz.ntmps128
 exact walk2
theorem r7Fields_any (f b : Nat) (w : World) (hf : f < 4) (hb : b < 2 ^ (64 * 2)) :
  CR_ 128 #[.int .u8 f, BV b] w (.tuple #[.bool (negN f b), .int .i64 (expN f b : Nat), W (b % 2 ^ (pF f - 1))]) := by
 obtain ⟨p1, p2, n1, n2, np1, np2⟩ := formB f hf
 obtain ⟨-, -, k3, k4, k5, -, -⟩ := formK f hf
 have cW := fun w => r7Width_any f w
 have cP := fun w => r7Precision_any f w
 have cO := fun w => r7Ones_any f w
 have hbt := lt_top_bits b hb
 have e1 := exp_ones (b / 2 ^ (pF f - 1)) (wF f - pF f) (by omega)
 rw [k3, show 2 * eF f + 2 - 1 = 2 * eF f + 1 by omega] at e1
 have cM := fun w => r2Mask_any ((pF f - 1 : Nat) : Int) w
 have cA := fun w => r2And_any b (2 ^ (pF f - 1) - 1) w
 have cR := fun w => r2Right_any b ((pF f - 1 : Nat) : Int) w hbt
 rw [clip_of _ (by omega)] at cM cR
 rw [Nat.and_two_pow_sub_one_eq_mod] at cA
 have h := r7Fields_w f b (pF f - 1) (wF f - 1) (pF f) (wF f) (2 * eF f + 1) _ _ _ _ _ w
  (by rw [show (pF f : Int) - 1 = ((pF f - 1 : Nat) : Int) by omega]; exact IntWalk.i64_in _ (by omega))
  (by rw [show (wF f : Int) - 1 = ((wF f - 1 : Nat) : Int) by omega]; exact IntWalk.i64_in _ (by omega))
  (fun w => r2OfBits_any b w hb) cW cP (fun w => r2Bit_any b (wF f - 1) w (by omega)) cM cA cR cO
 rw [e1, ← k3] at h
 exact h
theorem r8Class_nan_true (f b e0 o t p2 p : Nat) (neg qb : Bool) (w : World) (cF : CK_ 128 #[.int .u8 f, BV b] (.tuple #[.bool neg, .int .i64 (e0 : Nat), W t])) (cO : CK_ 168 #[.int .u8 f] (.int .i64 (o : Nat))) (eq1 : ∀ w, (Op.equalIn 10000 60 (.agg (limbs t)) (.agg #[.int .u64 0, .int .u64 0, .int .u64 0, .int .u64 0, .int .u64 0, .int .u64 0])).run Tryz.prog w = .ok false w) (hx : ((e0 : Int) == (o : Int)) = true) (hp : IntKind.i64.wrap ((p : Int) - 2) = (p2 : Int)) (cP : CK_ 166 #[.int .u8 f] (.int .i64 (p : Nat))) (cB : CK_ 192 #[W t, .int .i64 (p2 : Nat)] (.bool true))  :
  CR_ 129 #[.int .u8 f, BV b] w (.int .u8 9) := by
 have H := Own.start w
 go_enter Tryz.func129, Tryz.ntmps129
 exact walk4
theorem r8Class_nan_false (f b e0 o t p2 p : Nat) (neg qb : Bool) (w : World) (cF : CK_ 128 #[.int .u8 f, BV b] (.tuple #[.bool neg, .int .i64 (e0 : Nat), W t])) (cO : CK_ 168 #[.int .u8 f] (.int .i64 (o : Nat))) (eq1 : ∀ w, (Op.equalIn 10000 60 (.agg (limbs t)) (.agg #[.int .u64 0, .int .u64 0, .int .u64 0, .int .u64 0, .int .u64 0, .int .u64 0])).run Tryz.prog w = .ok false w) (hx : ((e0 : Int) == (o : Int)) = true) (hp : IntKind.i64.wrap ((p : Int) - 2) = (p2 : Int)) (cP : CK_ 166 #[.int .u8 f] (.int .i64 (p : Nat))) (cB : CK_ 192 #[W t, .int .i64 (p2 : Nat)] (.bool false))  :
  CR_ 129 #[.int .u8 f, BV b] w (.int .u8 8) := by
 have H := Own.start w
 go_enter Tryz.func129, Tryz.ntmps129
 exact walk4
theorem r8Class_inf_true (f b e0 o t p2 p : Nat) (neg qb : Bool) (w : World) (cF : CK_ 128 #[.int .u8 f, BV b] (.tuple #[.bool true, .int .i64 (e0 : Nat), W t])) (cO : CK_ 168 #[.int .u8 f] (.int .i64 (o : Nat))) (eq1 : ∀ w, (Op.equalIn 10000 60 (.agg (limbs t)) (.agg #[.int .u64 0, .int .u64 0, .int .u64 0, .int .u64 0, .int .u64 0, .int .u64 0])).run Tryz.prog w = .ok true w) (hx : ((e0 : Int) == (o : Int)) = true)  :
  CR_ 129 #[.int .u8 f, BV b] w (.int .u8 0) := by
 have H := Own.start w
 go_enter Tryz.func129, Tryz.ntmps129
 exact walk4
theorem r8Class_nor_true (f b e0 o t p2 p : Nat) (neg qb : Bool) (w : World) (cF : CK_ 128 #[.int .u8 f, BV b] (.tuple #[.bool true, .int .i64 (e0 : Nat), W t])) (cO : CK_ 168 #[.int .u8 f] (.int .i64 (o : Nat))) (hx : ((e0 : Int) == (o : Int)) = false) (hy : ((e0 : Int) != 0) = true)  :
  CR_ 129 #[.int .u8 f, BV b] w (.int .u8 1) := by
 have H := Own.start w
 go_enter Tryz.func129, Tryz.ntmps129
 exact walk4
theorem r8Class_sub_true (f b e0 o t p2 p : Nat) (neg qb : Bool) (w : World) (cF : CK_ 128 #[.int .u8 f, BV b] (.tuple #[.bool true, .int .i64 (e0 : Nat), W t])) (cO : CK_ 168 #[.int .u8 f] (.int .i64 (o : Nat))) (hx : ((e0 : Int) == (o : Int)) = false) (hy : ((e0 : Int) != 0) = false) (eq1 : ∀ w, (Op.equalIn 10000 60 (.agg (limbs t)) (.agg #[.int .u64 0, .int .u64 0, .int .u64 0, .int .u64 0, .int .u64 0, .int .u64 0])).run Tryz.prog w = .ok false w)  :
  CR_ 129 #[.int .u8 f, BV b] w (.int .u8 2) := by
 have H := Own.start w
 go_enter Tryz.func129, Tryz.ntmps129
 exact walk4
theorem r8Class_zer_true (f b e0 o t p2 p : Nat) (neg qb : Bool) (w : World) (cF : CK_ 128 #[.int .u8 f, BV b] (.tuple #[.bool true, .int .i64 (e0 : Nat), W t])) (cO : CK_ 168 #[.int .u8 f] (.int .i64 (o : Nat))) (hx : ((e0 : Int) == (o : Int)) = false) (hy : ((e0 : Int) != 0) = false) (eq1 : ∀ w, (Op.equalIn 10000 60 (.agg (limbs t)) (.agg #[.int .u64 0, .int .u64 0, .int .u64 0, .int .u64 0, .int .u64 0, .int .u64 0])).run Tryz.prog w = .ok true w)  :
  CR_ 129 #[.int .u8 f, BV b] w (.int .u8 3) := by
 have H := Own.start w
 go_enter Tryz.func129, Tryz.ntmps129
 exact walk4
theorem r8Class_inf_false (f b e0 o t p2 p : Nat) (neg qb : Bool) (w : World) (cF : CK_ 128 #[.int .u8 f, BV b] (.tuple #[.bool false, .int .i64 (e0 : Nat), W t])) (cO : CK_ 168 #[.int .u8 f] (.int .i64 (o : Nat))) (eq1 : ∀ w, (Op.equalIn 10000 60 (.agg (limbs t)) (.agg #[.int .u64 0, .int .u64 0, .int .u64 0, .int .u64 0, .int .u64 0, .int .u64 0])).run Tryz.prog w = .ok true w) (hx : ((e0 : Int) == (o : Int)) = true)  :
  CR_ 129 #[.int .u8 f, BV b] w (.int .u8 7) := by
 have H := Own.start w
 go_enter Tryz.func129, Tryz.ntmps129
 exact walk4
theorem r8Class_nor_false (f b e0 o t p2 p : Nat) (neg qb : Bool) (w : World) (cF : CK_ 128 #[.int .u8 f, BV b] (.tuple #[.bool false, .int .i64 (e0 : Nat), W t])) (cO : CK_ 168 #[.int .u8 f] (.int .i64 (o : Nat))) (hx : ((e0 : Int) == (o : Int)) = false) (hy : ((e0 : Int) != 0) = true)  :
  CR_ 129 #[.int .u8 f, BV b] w (.int .u8 6) := by
 have H := Own.start w
 go_enter Tryz.func129, Tryz.ntmps129
 exact walk4
theorem r8Class_sub_false (f b e0 o t p2 p : Nat) (neg qb : Bool) (w : World) (cF : CK_ 128 #[.int .u8 f, BV b] (.tuple #[.bool false, .int .i64 (e0 : Nat), W t])) (cO : CK_ 168 #[.int .u8 f] (.int .i64 (o : Nat))) (hx : ((e0 : Int) == (o : Int)) = false) (hy : ((e0 : Int) != 0) = false) (eq1 : ∀ w, (Op.equalIn 10000 60 (.agg (limbs t)) (.agg #[.int .u64 0, .int .u64 0, .int .u64 0, .int .u64 0, .int .u64 0, .int .u64 0])).run Tryz.prog w = .ok false w)  :
  CR_ 129 #[.int .u8 f, BV b] w (.int .u8 5) := by
 have H := Own.start w
 go_enter Tryz.func129, Tryz.ntmps129
 exact walk4
theorem r8Class_zer_false (f b e0 o t p2 p : Nat) (neg qb : Bool) (w : World) (cF : CK_ 128 #[.int .u8 f, BV b] (.tuple #[.bool false, .int .i64 (e0 : Nat), W t])) (cO : CK_ 168 #[.int .u8 f] (.int .i64 (o : Nat))) (hx : ((e0 : Int) == (o : Int)) = false) (hy : ((e0 : Int) != 0) = false) (eq1 : ∀ w, (Op.equalIn 10000 60 (.agg (limbs t)) (.agg #[.int .u64 0, .int .u64 0, .int .u64 0, .int .u64 0, .int .u64 0, .int .u64 0])).run Tryz.prog w = .ok true w)  :
  CR_ 129 #[.int .u8 f, BV b] w (.int .u8 4) := by
 have H := Own.start w
 go_enter Tryz.func129, Tryz.ntmps129
 exact walk4
theorem r8Class_any (f b : Nat) (w : World) (hf : f < 4) (hb : b < 2 ^ (64 * 2)) :
  CR_ 129 #[.int .u8 f, BV b] w (.int .u8 (clsN f b : Nat)) := by
 have cF := fun w => r7Fields_any f b w hf hb
 have cO := fun w => r7Ones_any f w
 have cP := fun w => r7Precision_any f w
 obtain ⟨p1, p2, -, -, -, -⟩ := formB f hf
 have ht : b % 2 ^ (pF f - 1) < top6 := Nat.lt_of_le_of_lt (Nat.mod_le _ _) (lt_top_bits b hb)
 have eq1 : ∀ w, (Op.equalIn 10000 60 (.agg (limbs (b % 2 ^ (pF f - 1)))) (.agg #[.int .u64 0, .int .u64 0, .int .u64 0, .int .u64 0, .int .u64 0, .int .u64 0])).run Tryz.prog w = .ok (decide (b % 2 ^ (pF f - 1) = 0)) w := fun w => run_equal_zero w _ ht
 unfold clsN
 unfold negN at cF
 generalize b % 2 ^ (pF f - 1) = t at *
 generalize expN f b = e at *
 generalize b.testBit (wF f - 1) = neg at *
 generalize eF f = m at *
 have cB := fun w => r2Bit_any t (pF f - 2) w (by omega)
 have hp : IntKind.i64.wrap ((pF f : Int) - 2) = ((pF f - 2 : Nat) : Int) := by rw [show (pF f : Int) - 2 = ((pF f - 2 : Nat) : Int) by omega]; exact IntWalk.i64_in _ (by omega)
 generalize pF f = p at *
 by_cases hx : e = 2 * m + 1
 ·have hxb : ((e : Int) == ((2 * m + 1 : Nat) : Int)) = true := int_eq_true _ _ hx
  rw [if_pos hx]
  by_cases hz : t = 0
  ·rw [decide_eq_true hz] at eq1
   rw [if_pos hz]
   cases neg
   ·exact r8Class_inf_false f b e _ t 0 0 false false w cF cO eq1 hxb
   ·exact r8Class_inf_true f b e _ t 0 0 false false w cF cO eq1 hxb
  ·rw [decide_eq_false hz] at eq1
   rw [if_neg hz]
   cases hq : t.testBit (p - 2) <;> rw [hq] at cB
   ·exact r8Class_nan_false f b e _ t (p - 2) p neg false w cF cO eq1 hxb hp cP cB
   ·exact r8Class_nan_true f b e _ t (p - 2) p neg false w cF cO eq1 hxb hp cP cB
 ·have hxb : ((e : Int) == ((2 * m + 1 : Nat) : Int)) = false := int_eq_false _ _ hx
  rw [if_neg hx]
  by_cases hy : e = 0
  ·have hyb : ((e : Int) != 0) = false := by rw [hy]; rfl
   rw [if_pos hy]
   by_cases hz : t = 0
   ·rw [decide_eq_true hz] at eq1
    rw [if_pos hz]
    cases neg
    ·exact r8Class_zer_false f b e _ t 0 0 false false w cF cO hxb hyb eq1
    ·exact r8Class_zer_true f b e _ t 0 0 false false w cF cO hxb hyb eq1
   ·rw [decide_eq_false hz] at eq1
    rw [if_neg hz]
    cases neg
    ·exact r8Class_sub_false f b e _ t 0 0 false false w cF cO hxb hyb eq1
    ·exact r8Class_sub_true f b e _ t 0 0 false false w cF cO hxb hyb eq1
  ·have hyb : ((e : Int) != 0) = true := by have := int_eq_false e 0 hy; rw [bne]; rw [show (0 : Int) = ((0 : Nat) : Int) from rfl, this]; rfl
   rw [if_neg hy]
   cases neg
   ·exact r8Class_nor_false f b e _ t 0 0 false false w cF cO hxb hyb
   ·exact r8Class_nor_true f b e _ t 0 0 false false w cF cO hxb hyb
theorem r8IsInf_t (f b c : Nat) (w : World) (hc : c = 0) (cC : CK_ 129 #[.int .u8 f, BV b] (.int .u8 (c : Nat)))  :
  CR_ 53 #[.int .u8 f, BV b] w (.bool (infB c)) := by
 have H := Own.start w
 have e1 : ((c : Int) == 0) = true := int_eq_true c 0 hc
 have HR := Lib.hid (show true = infB c by rw [hc]; rfl)
 clear hc
 go_enter Tryz.func53, Tryz.ntmps53
 exact walk3
theorem r8IsInf_f (f b c : Nat) (w : World) (hc : c ≠ 0) (cC : CK_ 129 #[.int .u8 f, BV b] (.int .u8 (c : Nat)))  :
  CR_ 53 #[.int .u8 f, BV b] w (.bool (infB c)) := by
 have H := Own.start w
 have e1 : ((c : Int) == 0) = false := int_eq_false c 0 hc
 have HR := Lib.hid (show ∀ b : Bool, b = decide (c = 7) → b = infB c by intro b hb; unfold infB; rw [decide_eq_false hc]; exact hb)
 clear hc
 go_enter Tryz.func53, Tryz.ntmps53
 exact walk3
theorem r8IsZero_t (f b c : Nat) (w : World) (hc : c = 3) (cC : CK_ 129 #[.int .u8 f, BV b] (.int .u8 (c : Nat)))  :
  CR_ 84 #[.int .u8 f, BV b] w (.bool (zerB c)) := by
 have H := Own.start w
 have e1 : ((c : Int) == 3) = true := int_eq_true c 3 hc
 have HR := Lib.hid (show true = zerB c by rw [hc]; rfl)
 clear hc
 go_enter Tryz.func84, Tryz.ntmps84
 exact walk3
theorem r8IsZero_f (f b c : Nat) (w : World) (hc : c ≠ 3) (cC : CK_ 129 #[.int .u8 f, BV b] (.int .u8 (c : Nat)))  :
  CR_ 84 #[.int .u8 f, BV b] w (.bool (zerB c)) := by
 have H := Own.start w
 have e1 : ((c : Int) == 3) = false := int_eq_false c 3 hc
 have HR := Lib.hid (show ∀ b : Bool, b = decide (c = 4) → b = zerB c by intro b hb; unfold zerB; rw [decide_eq_false hc]; exact hb)
 clear hc
 go_enter Tryz.func84, Tryz.ntmps84
 exact walk3
def AddAt (a b : Nat) (c0 : Bool) (k s : Nat) (c : Bool) : Prop := a % 2 ^ k + b % 2 ^ k + c0.toNat = s + 2 ^ k * c.toNat ∧ s < 2 ^ k
theorem addAt_zero (a b : Nat) (c0 : Bool) : AddAt a b c0 0 0 c0 := by unfold AddAt; rw [Nat.pow_zero, Nat.mod_one, Nat.mod_one]; exact ⟨by omega, by decide⟩
theorem bit_cond (a k : Nat) : a % 2 ^ (k + 1) = a % 2 ^ k + 2 ^ k * (a.testBit k).toNat := by
 cases h : a.testBit k
 ·rw [bit_f a k h]; rfl
 ·rw [bit_t a k h]; show _ = _ + 2 ^ k * 1; rw [Nat.mul_one]
theorem addAt_step (a b : Nat) (c0 : Bool) (k s : Nat) (c : Bool) (h : AddAt a b c0 k s c) :
  AddAt a b c0 (k + 1) (cond ((a.testBit k != b.testBit k) != c) (s + 2 ^ k) s) (a.testBit k && b.testBit k || (a.testBit k && c || b.testBit k && c)) := by
 obtain ⟨h1, h2⟩ := h
 unfold AddAt
 rw [bit_cond a k, bit_cond b k, Nat.pow_succ]
 cases a.testBit k <;> cases b.testBit k <;> cases c <;> simp at * <;> omega
theorem addAt_all (a b : Nat) (c0 : Bool) (s : Nat) (c : Bool) (ha : a < 18446744073709551616) (hb : b < 18446744073709551616) (h : AddAt a b c0 64 s c) : (s : Int) = addW a b c0 ∧ c = carW a b c0 := by
 obtain ⟨h1, h2⟩ := h
 rw [← B64] at h1 h2
 rw [Nat.mod_eq_of_lt ha, Nat.mod_eq_of_lt hb] at h1
 unfold addW carW
 cases c0 <;> cases c <;> simp at * <;> omega
theorem lenN_bit (x i : Nat) : lenN (x % 2 ^ (i + 1)) = if x.testBit i = true then i + 1 else lenN (x % 2 ^ i) := by
 cases h : x.testBit i
 ·rw [bit_f x i h]; rfl
 ·rw [bit_t x i h, if_pos rfl]
  have := Nat.mod_lt x (two_pos i)
  exact lenN_unique _ _ (by rw [Nat.add_sub_cancel]; omega) (by rw [Nat.pow_succ]; omega) (by omega)
theorem r1Add_nat (a b : Nat) (c0 : Bool) (w0 : World) (ha : a < 18446744073709551616) (hb : b < 18446744073709551616) :
  CR_ 230 #[.int .u64 a, .int .u64 b, .bool c0] w0 (.tuple #[.int .u64 (addW a b c0), .bool (carW a b c0)]) := by
 have H := Own.start w0
 have HA := Lib.hid ha
 have HB := Lib.hid hb
 clear ha hb
 go_enter Tryz.func230, Tryz.ntmps230
 go_wp2_with (first
  | ((with_reducible refine g0_ rfl ?_); refine H.xb ?_; (intro g w H; simp only [Act.put, q1_, q2_, q3_]))
  | ((with_reducible refine g1_ rfl ?_); refine H.xa ?_; (intro g w H; simp only [Act.put, q1_, q2_, q3_]))
  | ((with_reducible refine g2_ rfl ?_); (first | refine H.xl ?_ | refine H.xm ?_); simp only [Act.put, q1_, q2_, q3_])
  | ((with_reducible refine g3_ rfl ?_); (first | refine H.xs ?_ | refine H.xt ?_); (intro w H; simp only [Act.put]))
  | (go_at_call 139; (with_reducible refine H.kc (cA _) ?_; clear H; intro w H))
  | (go_at_call 139; (with_reducible refine H.kc (cB _) ?_; clear H; intro w H))
  )
 go_loopw [2, 8, 9] (fun cv sv iv wr => ∃ (k t : Nat) (c : Bool), k ≤ 64 ∧ iv = .int .i64 k ∧ sv = .int .u64 t ∧ cv = .bool c ∧ Hid (AddAt a b c0 k t c) ∧ Own w0 wr []) (fun _ _ i _ => 64 - (intOf i).toNat)
 case atStart => exact ⟨0, 0, c0, by omega, rfl, rfl, rfl, Lib.hid (addAt_zero a b c0), H⟩
 case round =>
  clear H
  obtain ⟨k, t, c, hk, rfl, rfl, rfl, hA, H⟩ := hrel
  by_cases hlt : k < 64
  ·have cA := fun w => r1Bit_any a k w HA.out hlt
   have cB := fun w => r1Bit_any b k w HB.out hlt
   have st := addAt_step a b c0 k t c hA.out
   have ht := hA.out.2
   have HO := Lib.hid (bits_or_top t k ht hlt)
   have hlti : (k : Int) < 64 := by omega
   have e3 : IntKind.u64.wrap (k : Int) = (k : Int) := by rw [IntKind.wrap_u64]; omega
   have e4 : min (k : Int).toNat 64 = k := by omega
   have e5 : min k 64 = k := by omega
   clear ht hA
   cases hx : a.testBit k <;> cases hy : b.testBit k <;> cases c <;> rw [hx] at cA st <;> rw [hy] at cB st <;>
   ·have S := Lib.hid st
    clear st hx hy
    go_wp2_with (first
  | ((with_reducible refine g0_ rfl ?_); refine H.xb ?_; (intro g w H; simp only [Act.put, q1_, q2_, q3_]))
  | ((with_reducible refine g1_ rfl ?_); refine H.xa ?_; (intro g w H; simp only [Act.put, q1_, q2_, q3_]))
  | ((with_reducible refine g2_ rfl ?_); (first | refine H.xl ?_ | refine H.xm ?_); simp only [Act.put, q1_, q2_, q3_])
  | ((with_reducible refine g3_ rfl ?_); (first | refine H.xs ?_ | refine H.xt ?_); (intro w H; simp only [Act.put]))
  | (go_at_call 139; (with_reducible refine H.kc (cA _) ?_; clear H; intro w H))
  | (go_at_call 139; (with_reducible refine H.kc (cB _) ?_; clear H; intro w H))
  )
    all_goals
     go_roundw
     case rel => exact ⟨k + 1, _, _, by omega, by go_num, (by first | rfl | (rw [HO.out]; rfl)), rfl, S, H⟩
     case measure => simp [intOf] <;> omega
  ·obtain rfl : k = 64 := by omega
   obtain ⟨r1, r2⟩ := addAt_all a b c0 t c HA.out HB.out hA.out
   have h1 := Lib.hid r1
   have h2 := Lib.hid r2
   clear r1 r2 hA hk hlt
   go_wp2_with (first
  | ((with_reducible refine g0_ rfl ?_); refine H.xb ?_; (intro g w H; simp only [Act.put, q1_, q2_, q3_]))
  | ((with_reducible refine g1_ rfl ?_); refine H.xa ?_; (intro g w H; simp only [Act.put, q1_, q2_, q3_]))
  | ((with_reducible refine g2_ rfl ?_); (first | refine H.xl ?_ | refine H.xm ?_); simp only [Act.put, q1_, q2_, q3_])
  | ((with_reducible refine g3_ rfl ?_); (first | refine H.xs ?_ | refine H.xt ?_); (intro w H; simp only [Act.put]))
  | (go_at_call 139; (with_reducible refine H.kc (cA _) ?_; clear H; intro w H))
  | (go_at_call 139; (with_reducible refine H.kc (cB _) ?_; clear H; intro w H))
  )
   go_ret2
   exact ⟨by rw [h1.out, h2.out]; rfl, H.below⟩
theorem r1Add_any (x y : Int) (c : Bool) (w : World) (hx : IsW x) (hy : IsW y) :
  CR_ 230 #[.int .u64 x, .int .u64 y, .bool c] w (.tuple #[.int .u64 (addW x y c), .bool (carW x y c)]) := by
 obtain ⟨a, rfl, ha⟩ := hx.nat
 obtain ⟨b, rfl, hb⟩ := hy.nat
 exact r1Add_nat a b c w ha hb
theorem r1Len_any (a : Nat) (w0 : World) (ha : a < 18446744073709551616) :
  CR_ 191 #[.int .u64 a] w0 (.int .i64 (lenN a : Nat)) := by
 have H := Own.start w0
 have HA := Lib.hid ha
 clear ha
 go_enter Tryz.func191, Tryz.ntmps191
 go_wp2_with (first
  | ((with_reducible refine g0_ rfl ?_); refine H.xb ?_; (intro g w H; simp only [Act.put, q1_, q2_, q3_]))
  | ((with_reducible refine g1_ rfl ?_); refine H.xa ?_; (intro g w H; simp only [Act.put, q1_, q2_, q3_]))
  | ((with_reducible refine g2_ rfl ?_); (first | refine H.xl ?_ | refine H.xm ?_); simp only [Act.put, q1_, q2_, q3_])
  | ((with_reducible refine g3_ rfl ?_); (first | refine H.xs ?_ | refine H.xt ?_); (intro w H; simp only [Act.put]))
  | (go_at_call 139; (with_reducible refine H.kc (cA _) ?_; clear H; intro w H))
  )
 go_loopw [3, 4] (fun nv iv wr => ∃ (k : Nat), k ≤ 64 ∧ iv = .int .i64 k ∧ nv = .int .i64 (lenN (a % 2 ^ k) : Nat) ∧ Own w0 wr []) (fun _ i _ => 64 - (intOf i).toNat)
 case atStart => exact ⟨0, by omega, rfl, by rw [Nat.pow_zero, Nat.mod_one]; rfl, H⟩
 case round =>
  clear H
  obtain ⟨k, hk, rfl, rfl, H⟩ := hrel
  by_cases hlt : k < 64
  ·have cA := fun w => r1Bit_any a k w HA.out hlt
   have st := Lib.hid (lenN_bit a k)
   have hlti : (k : Int) < 64 := by omega
   cases hx : a.testBit k <;> rw [hx] at cA
   ·have S := Lib.hid (show lenN (a % 2 ^ (k + 1)) = lenN (a % 2 ^ k) by rw [st.out, hx]; rfl)
    clear hx st
    go_wp2_with (first
  | ((with_reducible refine g0_ rfl ?_); refine H.xb ?_; (intro g w H; simp only [Act.put, q1_, q2_, q3_]))
  | ((with_reducible refine g1_ rfl ?_); refine H.xa ?_; (intro g w H; simp only [Act.put, q1_, q2_, q3_]))
  | ((with_reducible refine g2_ rfl ?_); (first | refine H.xl ?_ | refine H.xm ?_); simp only [Act.put, q1_, q2_, q3_])
  | ((with_reducible refine g3_ rfl ?_); (first | refine H.xs ?_ | refine H.xt ?_); (intro w H; simp only [Act.put]))
  | (go_at_call 139; (with_reducible refine H.kc (cA _) ?_; clear H; intro w H))
  )
    all_goals
     go_roundw
     case rel => exact ⟨k + 1, by omega, by go_num, by rw [S.out], H⟩
     case measure => simp [intOf] <;> omega
   ·have S := Lib.hid (show lenN (a % 2 ^ (k + 1)) = k + 1 by rw [st.out, hx]; rfl)
    clear hx st
    go_wp2_with (first
  | ((with_reducible refine g0_ rfl ?_); refine H.xb ?_; (intro g w H; simp only [Act.put, q1_, q2_, q3_]))
  | ((with_reducible refine g1_ rfl ?_); refine H.xa ?_; (intro g w H; simp only [Act.put, q1_, q2_, q3_]))
  | ((with_reducible refine g2_ rfl ?_); (first | refine H.xl ?_ | refine H.xm ?_); simp only [Act.put, q1_, q2_, q3_])
  | ((with_reducible refine g3_ rfl ?_); (first | refine H.xs ?_ | refine H.xt ?_); (intro w H; simp only [Act.put]))
  | (go_at_call 139; (with_reducible refine H.kc (cA _) ?_; clear H; intro w H))
  )
    all_goals
     go_roundw
     case rel => exact ⟨k + 1, by omega, by go_num, by rw [S.out]; go_num, H⟩
     case measure => simp [intOf] <;> omega
  ·obtain rfl : k = 64 := by omega
   have h1 := Lib.hid (show a % 2 ^ 64 = a from Nat.mod_eq_of_lt (by rw [← B64]; exact HA.out))
   rw [h1.out]
   clear h1 hk hlt
   go_wp2_with (first
  | ((with_reducible refine g0_ rfl ?_); refine H.xb ?_; (intro g w H; simp only [Act.put, q1_, q2_, q3_]))
  | ((with_reducible refine g1_ rfl ?_); refine H.xa ?_; (intro g w H; simp only [Act.put, q1_, q2_, q3_]))
  | ((with_reducible refine g2_ rfl ?_); (first | refine H.xl ?_ | refine H.xm ?_); simp only [Act.put, q1_, q2_, q3_])
  | ((with_reducible refine g3_ rfl ?_); (first | refine H.xs ?_ | refine H.xt ?_); (intro w H; simp only [Act.put]))
  | (go_at_call 139; (with_reducible refine H.kc (cA _) ?_; clear H; intro w H))
  )
   go_ret
   exact ⟨rfl, H.below⟩
end Go.Proofs.YtgmhmpflmgfcdaaGreatDoor
