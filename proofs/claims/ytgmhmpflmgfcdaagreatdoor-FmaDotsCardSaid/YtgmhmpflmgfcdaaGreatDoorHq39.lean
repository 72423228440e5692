/- Part 39 of the proof. -/
import Derived.Test.YtgmhmpflmgfcdaaGreatDoorHq4
import Derived.Test.YtgmhmpflmgfcdaaGreatDoorHq5
import Derived.Test.YtgmhmpflmgfcdaaGreatDoorHq7
import Derived.Test.YtgmhmpflmgfcdaaGreatDoorHq37
set_option linter.unusedSimpArgs false
set_option linter.unusedVariables false
set_option linter.unnecessarySimpa false
set_option maxRecDepth 100000
set_option maxHeartbeats 3200000
namespace Go.Proofs.YtgmhmpflmgfcdaaGreatDoor
open Go.RowKit
theorem fma_open3_mode (f m a b c : Nat) (w0 : World) (g0 : Nat) (hB : Blk 27 w0 g0 (cat3 (bc a) (bc b) (bc c))) (cM : ∀ w, Calls Tryz.prog 121 #[.int .u8 m] w fun e w' => e = .returned (.int .i64 2) ∧ w = w') :
  CR_ 110 #[.int .u8 f, .int .u8 m, .slice (some ⟨g0, 0, none⟩) 3 3] w0 (.tuple #[.agg (tri 0 0 0 0 0 0 0 0 0 0 0 0), .bool false]) := by
 have H := Own.start w0
 go_enter Tryz.func110, Tryz.ntmps110
 exact walk4
theorem fma_open3_form (f m a b c : Nat) (w0 : World) (g0 : Nat) (hB : Blk 27 w0 g0 (cat3 (bc a) (bc b) (bc c))) (cM : ∀ w, Calls Tryz.prog 121 #[.int .u8 m] w fun e w' => e = .returned (.int .i64 0) ∧ w = w') (cF : ∀ w, Calls Tryz.prog 154 #[.int .u8 f] w fun e w' => e = .returned (.int .i64 2) ∧ w = w') :
  CR_ 110 #[.int .u8 f, .int .u8 m, .slice (some ⟨g0, 0, none⟩) 3 3] w0 (.tuple #[.agg (tri 0 0 0 0 0 0 0 0 0 0 0 0), .bool false]) := by
 have H := Own.start w0
 go_enter Tryz.func110, Tryz.ntmps110
 exact walk4
theorem fma_open3_no0 (f m a b c : Nat) (w0 : World) (hT : Tab w0) (g0 : Nat) (hB : Blk 27 w0 g0 (cat3 (bc a) (bc b) (bc c))) (cM : ∀ w, Calls Tryz.prog 121 #[.int .u8 m] w fun e w' => e = .returned (.int .i64 0) ∧ w = w') (cF : ∀ w, Calls Tryz.prog 154 #[.int .u8 f] w fun e w' => e = .returned (.int .i64 0) ∧ w = w') (cUa : CT_ 120 #[.int .u8 f, BV a] (.tuple #[.agg PZ, .int .i64 2])) :
  CR_ 110 #[.int .u8 f, .int .u8 m, .slice (some ⟨g0, 0, none⟩) 3 3] w0 (.tuple #[.agg (tri 0 0 0 0 0 0 0 0 0 0 0 0), .bool false]) := by
 have H := Own.start w0
 have HT := Lib.hid hT
 clear hT
 go_enter Tryz.func110, Tryz.ntmps110
 go_wp2_with (first
  | ((with_reducible refine g0_ rfl ?_); refine H.xb ?_; (intro g w H; simp only [Act.put, q1_, q2_, q3_]))
  | ((with_reducible refine g1_ rfl ?_); refine H.xa ?_; (intro g w H; simp only [Act.put, q1_, q2_, q3_]))
  | ((with_reducible refine g2_ rfl ?_); (first | refine H.xl ?_ | refine H.xm ?_); simp only [Act.put, q1_, q2_, q3_])
  | ((with_reducible refine g3_ rfl ?_); (first | refine H.xs ?_ | refine H.xt ?_); (intro w H; simp only [Act.put]))
  | (go_at_call 121; ((with_reducible refine (cM _).mono ?_); rintro e w' ⟨rfl, rfl⟩))
  | (go_at_call 154; ((with_reducible refine (cF _).mono ?_); rintro e w' ⟨rfl, rfl⟩))
  )
 go_loopw [23] (fun i wr => (i = .int .i64 0 ∧ Own w0 wr [(g, 101, (tri 0 0 0 0 0 0 0 0 0 0 0 0))])) (fun i _ => 4 - (intOf i).toNat)
 case atStart => exact ⟨rfl, H⟩
 case round =>
  clear H
  obtain ⟨rfl, H⟩ := hrel
  ·go_wp2_with (first
  | ((with_reducible refine g0_ rfl ?_); refine H.xb ?_; (intro g w H; simp only [Act.put, q1_, q2_, q3_]))
  | ((with_reducible refine g1_ rfl ?_); refine H.xa ?_; (intro g w H; simp only [Act.put, q1_, q2_, q3_]))
  | ((with_reducible refine g2_ rfl ?_); (first | refine H.xl ?_ | refine H.xm ?_); simp only [Act.put, q1_, q2_, q3_])
  | ((with_reducible refine g3_ rfl ?_); (first | refine H.xs ?_ | refine H.xt ?_); (intro w H; simp only [Act.put]))
  | ((with_reducible refine g5_ rfl ?_); refine H.ldo rfl rB rfl rfl hB v6_ (by rfl) ?_; simp only [Act.put, q1_, q2_, q3_])
  | (go_at_call 120; (with_reducible refine H.kc (cUa _ (HT.out.below H.below)) ?_; clear H; intro w H))
  )
   all_goals
    refine bodyPost_ret (results_ct rfl rfl (H.res rQ v2_ (ext_tri _ _ _ _ _ _ _ _ _ _ _ _) (by rfl))) rfl ⟨?_, H.below⟩
    rfl
theorem fma_open3_no1 (f m a b c : Nat) (w0 : World) (hT : Tab w0) (g0 : Nat) (hB : Blk 27 w0 g0 (cat3 (bc a) (bc b) (bc c))) (cM : ∀ w, Calls Tryz.prog 121 #[.int .u8 m] w fun e w' => e = .returned (.int .i64 0) ∧ w = w') (cF : ∀ w, Calls Tryz.prog 154 #[.int .u8 f] w fun e w' => e = .returned (.int .i64 0) ∧ w = w') (cUa : CT_ 120 #[.int .u8 f, BV a] (.tuple #[.agg (PT f a), .int .i64 0])) (cUb : CT_ 120 #[.int .u8 f, BV b] (.tuple #[.agg PZ, .int .i64 2])) :
  CR_ 110 #[.int .u8 f, .int .u8 m, .slice (some ⟨g0, 0, none⟩) 3 3] w0 (.tuple #[.agg (tri (clsN f a) (sigN f a) (xpN f a) (frN f a) 0 0 0 0 0 0 0 0), .bool false]) := by
 have H := Own.start w0
 have HT := Lib.hid hT
 clear hT
 go_enter Tryz.func110, Tryz.ntmps110
 go_wp2_with (first
  | ((with_reducible refine g0_ rfl ?_); refine H.xb ?_; (intro g w H; simp only [Act.put, q1_, q2_, q3_]))
  | ((with_reducible refine g1_ rfl ?_); refine H.xa ?_; (intro g w H; simp only [Act.put, q1_, q2_, q3_]))
  | ((with_reducible refine g2_ rfl ?_); (first | refine H.xl ?_ | refine H.xm ?_); simp only [Act.put, q1_, q2_, q3_])
  | ((with_reducible refine g3_ rfl ?_); (first | refine H.xs ?_ | refine H.xt ?_); (intro w H; simp only [Act.put]))
  | (go_at_call 121; ((with_reducible refine (cM _).mono ?_); rintro e w' ⟨rfl, rfl⟩))
  | (go_at_call 154; ((with_reducible refine (cF _).mono ?_); rintro e w' ⟨rfl, rfl⟩))
  )
 go_loopw [23] (fun i wr => (i = .int .i64 0 ∧ Own w0 wr [(g, 101, (tri 0 0 0 0 0 0 0 0 0 0 0 0))]) ∨ (i = .int .i64 1 ∧ Own w0 wr [(g, 101, (tri (clsN f a) (sigN f a) (xpN f a) (frN f a) 0 0 0 0 0 0 0 0))])) (fun i _ => 4 - (intOf i).toNat)
 case atStart => exact Or.inl ⟨rfl, H⟩
 case round =>
  clear H
  rcases hrel with ⟨rfl, H⟩ | ⟨rfl, H⟩
  ·go_wp2_with (first
  | ((with_reducible refine g0_ rfl ?_); refine H.xb ?_; (intro g w H; simp only [Act.put, q1_, q2_, q3_]))
  | ((with_reducible refine g1_ rfl ?_); refine H.xa ?_; (intro g w H; simp only [Act.put, q1_, q2_, q3_]))
  | ((with_reducible refine g2_ rfl ?_); (first | refine H.xl ?_ | refine H.xm ?_); simp only [Act.put, q1_, q2_, q3_])
  | ((with_reducible refine g3_ rfl ?_); (first | refine H.xs ?_ | refine H.xt ?_); (intro w H; simp only [Act.put]))
  | ((with_reducible refine g5_ rfl ?_); refine H.ldo rfl rB rfl rfl hB v6_ (by rfl) ?_; simp only [Act.put, q1_, q2_, q3_])
  | (go_at_call 120; (with_reducible refine H.kc (cUa _ (HT.out.below H.below)) ?_; clear H; intro w H))
  )
   all_goals
    go_roundw
    case rel => exact Or.inr (⟨by go_num, H.sub v5_⟩)
    case measure => simp [intOf]
  ·go_wp2_with (first
  | ((with_reducible refine g0_ rfl ?_); refine H.xb ?_; (intro g w H; simp only [Act.put, q1_, q2_, q3_]))
  | ((with_reducible refine g1_ rfl ?_); refine H.xa ?_; (intro g w H; simp only [Act.put, q1_, q2_, q3_]))
  | ((with_reducible refine g2_ rfl ?_); (first | refine H.xl ?_ | refine H.xm ?_); simp only [Act.put, q1_, q2_, q3_])
  | ((with_reducible refine g3_ rfl ?_); (first | refine H.xs ?_ | refine H.xt ?_); (intro w H; simp only [Act.put]))
  | ((with_reducible refine g5_ rfl ?_); refine H.ldo rfl rB rfl rfl hB (by first | with_reducible exact cat3_1 (bc _) (bc _) (bc _) rfl) (by rfl) ?_; simp only [Act.put, q1_, q2_, q3_])
  | (go_at_call 120; (with_reducible refine H.kc (cUb _ (HT.out.below H.below)) ?_; clear H; intro w H))
  )
   all_goals
    refine bodyPost_ret (results_ct rfl rfl (H.res rQ v2_ (ext_tri _ _ _ _ _ _ _ _ _ _ _ _) (by rfl))) rfl ⟨?_, H.below⟩
    rfl
theorem fma_open3_no2 (f m a b c : Nat) (w0 : World) (hT : Tab w0) (g0 : Nat) (hB : Blk 27 w0 g0 (cat3 (bc a) (bc b) (bc c))) (cM : ∀ w, Calls Tryz.prog 121 #[.int .u8 m] w fun e w' => e = .returned (.int .i64 0) ∧ w = w') (cF : ∀ w, Calls Tryz.prog 154 #[.int .u8 f] w fun e w' => e = .returned (.int .i64 0) ∧ w = w') (cUa : CT_ 120 #[.int .u8 f, BV a] (.tuple #[.agg (PT f a), .int .i64 0])) (cUb : CT_ 120 #[.int .u8 f, BV b] (.tuple #[.agg (PT f b), .int .i64 0])) (cUc : CT_ 120 #[.int .u8 f, BV c] (.tuple #[.agg PZ, .int .i64 2])) :
  CR_ 110 #[.int .u8 f, .int .u8 m, .slice (some ⟨g0, 0, none⟩) 3 3] w0 (.tuple #[.agg (tri (clsN f a) (sigN f a) (xpN f a) (frN f a) (clsN f b) (sigN f b) (xpN f b) (frN f b) 0 0 0 0), .bool false]) := by
 have H := Own.start w0
 have HT := Lib.hid hT
 clear hT
 go_enter Tryz.func110, Tryz.ntmps110
 go_wp2_with (first
  | ((with_reducible refine g0_ rfl ?_); refine H.xb ?_; (intro g w H; simp only [Act.put, q1_, q2_, q3_]))
  | ((with_reducible refine g1_ rfl ?_); refine H.xa ?_; (intro g w H; simp only [Act.put, q1_, q2_, q3_]))
  | ((with_reducible refine g2_ rfl ?_); (first | refine H.xl ?_ | refine H.xm ?_); simp only [Act.put, q1_, q2_, q3_])
  | ((with_reducible refine g3_ rfl ?_); (first | refine H.xs ?_ | refine H.xt ?_); (intro w H; simp only [Act.put]))
  | (go_at_call 121; ((with_reducible refine (cM _).mono ?_); rintro e w' ⟨rfl, rfl⟩))
  | (go_at_call 154; ((with_reducible refine (cF _).mono ?_); rintro e w' ⟨rfl, rfl⟩))
  )
 go_loopw [23] (fun i wr => (i = .int .i64 0 ∧ Own w0 wr [(g, 101, (tri 0 0 0 0 0 0 0 0 0 0 0 0))]) ∨ (i = .int .i64 1 ∧ Own w0 wr [(g, 101, (tri (clsN f a) (sigN f a) (xpN f a) (frN f a) 0 0 0 0 0 0 0 0))]) ∨ (i = .int .i64 2 ∧ Own w0 wr [(g, 101, (tri (clsN f a) (sigN f a) (xpN f a) (frN f a) (clsN f b) (sigN f b) (xpN f b) (frN f b) 0 0 0 0))])) (fun i _ => 4 - (intOf i).toNat)
 case atStart => exact Or.inl ⟨rfl, H⟩
 case round =>
  clear H
  rcases hrel with ⟨rfl, H⟩ | ⟨rfl, H⟩ | ⟨rfl, H⟩
  ·go_wp2_with (first
  | ((with_reducible refine g0_ rfl ?_); refine H.xb ?_; (intro g w H; simp only [Act.put, q1_, q2_, q3_]))
  | ((with_reducible refine g1_ rfl ?_); refine H.xa ?_; (intro g w H; simp only [Act.put, q1_, q2_, q3_]))
  | ((with_reducible refine g2_ rfl ?_); (first | refine H.xl ?_ | refine H.xm ?_); simp only [Act.put, q1_, q2_, q3_])
  | ((with_reducible refine g3_ rfl ?_); (first | refine H.xs ?_ | refine H.xt ?_); (intro w H; simp only [Act.put]))
  | ((with_reducible refine g5_ rfl ?_); refine H.ldo rfl rB rfl rfl hB v6_ (by rfl) ?_; simp only [Act.put, q1_, q2_, q3_])
  | (go_at_call 120; (with_reducible refine H.kc (cUa _ (HT.out.below H.below)) ?_; clear H; intro w H))
  )
   all_goals
    go_roundw
    case rel => exact Or.inr (Or.inl ⟨by go_num, H.sub v5_⟩)
    case measure => simp [intOf]
  ·go_wp2_with (first
  | ((with_reducible refine g0_ rfl ?_); refine H.xb ?_; (intro g w H; simp only [Act.put, q1_, q2_, q3_]))
  | ((with_reducible refine g1_ rfl ?_); refine H.xa ?_; (intro g w H; simp only [Act.put, q1_, q2_, q3_]))
  | ((with_reducible refine g2_ rfl ?_); (first | refine H.xl ?_ | refine H.xm ?_); simp only [Act.put, q1_, q2_, q3_])
  | ((with_reducible refine g3_ rfl ?_); (first | refine H.xs ?_ | refine H.xt ?_); (intro w H; simp only [Act.put]))
  | ((with_reducible refine g5_ rfl ?_); refine H.ldo rfl rB rfl rfl hB (by first | with_reducible exact cat3_1 (bc _) (bc _) (bc _) rfl) (by rfl) ?_; simp only [Act.put, q1_, q2_, q3_])
  | (go_at_call 120; (with_reducible refine H.kc (cUb _ (HT.out.below H.below)) ?_; clear H; intro w H))
  )
   all_goals
    go_roundw
    case rel => exact Or.inr (Or.inr (⟨by go_num, H.sub v5_⟩))
    case measure => simp [intOf]
  ·go_wp2_with (first
  | ((with_reducible refine g0_ rfl ?_); refine H.xb ?_; (intro g w H; simp only [Act.put, q1_, q2_, q3_]))
  | ((with_reducible refine g1_ rfl ?_); refine H.xa ?_; (intro g w H; simp only [Act.put, q1_, q2_, q3_]))
  | ((with_reducible refine g2_ rfl ?_); (first | refine H.xl ?_ | refine H.xm ?_); simp only [Act.put, q1_, q2_, q3_])
  | ((with_reducible refine g3_ rfl ?_); (first | refine H.xs ?_ | refine H.xt ?_); (intro w H; simp only [Act.put]))
  | ((with_reducible refine g5_ rfl ?_); refine H.ldo rfl rB rfl rfl hB (by first | with_reducible exact cat3_2 (bc _) (bc _) (bc _) rfl) (by rfl) ?_; simp only [Act.put, q1_, q2_, q3_])
  | (go_at_call 120; (with_reducible refine H.kc (cUc _ (HT.out.below H.below)) ?_; clear H; intro w H))
  )
   all_goals
    refine bodyPost_ret (results_ct rfl rfl (H.res rQ v2_ (ext_tri _ _ _ _ _ _ _ _ _ _ _ _) (by rfl))) rfl ⟨?_, H.below⟩
    rfl
theorem fma_open3_ok (f m a b c : Nat) (w0 : World) (hT : Tab w0) (g0 : Nat) (hB : Blk 27 w0 g0 (cat3 (bc a) (bc b) (bc c))) (cM : ∀ w, Calls Tryz.prog 121 #[.int .u8 m] w fun e w' => e = .returned (.int .i64 0) ∧ w = w') (cF : ∀ w, Calls Tryz.prog 154 #[.int .u8 f] w fun e w' => e = .returned (.int .i64 0) ∧ w = w') (cUa : CT_ 120 #[.int .u8 f, BV a] (.tuple #[.agg (PT f a), .int .i64 0])) (cUb : CT_ 120 #[.int .u8 f, BV b] (.tuple #[.agg (PT f b), .int .i64 0])) (cUc : CT_ 120 #[.int .u8 f, BV c] (.tuple #[.agg (PT f c), .int .i64 0])) :
  CR_ 110 #[.int .u8 f, .int .u8 m, .slice (some ⟨g0, 0, none⟩) 3 3] w0 (.tuple #[.agg (tri (clsN f a) (sigN f a) (xpN f a) (frN f a) (clsN f b) (sigN f b) (xpN f b) (frN f b) (clsN f c) (sigN f c) (xpN f c) (frN f c)), .bool true]) := by
 have H := Own.start w0
 have HT := Lib.hid hT
 clear hT
 go_enter Tryz.func110, Tryz.ntmps110
 go_wp2_with (first
  | ((with_reducible refine g0_ rfl ?_); refine H.xb ?_; (intro g w H; simp only [Act.put, q1_, q2_, q3_]))
  | ((with_reducible refine g1_ rfl ?_); refine H.xa ?_; (intro g w H; simp only [Act.put, q1_, q2_, q3_]))
  | ((with_reducible refine g2_ rfl ?_); (first | refine H.xl ?_ | refine H.xm ?_); simp only [Act.put, q1_, q2_, q3_])
  | ((with_reducible refine g3_ rfl ?_); (first | refine H.xs ?_ | refine H.xt ?_); (intro w H; simp only [Act.put]))
  | (go_at_call 121; ((with_reducible refine (cM _).mono ?_); rintro e w' ⟨rfl, rfl⟩))
  | (go_at_call 154; ((with_reducible refine (cF _).mono ?_); rintro e w' ⟨rfl, rfl⟩))
  )
 go_loopw [23] (fun i wr => (i = .int .i64 0 ∧ Own w0 wr [(g, 101, (tri 0 0 0 0 0 0 0 0 0 0 0 0))]) ∨ (i = .int .i64 1 ∧ Own w0 wr [(g, 101, (tri (clsN f a) (sigN f a) (xpN f a) (frN f a) 0 0 0 0 0 0 0 0))]) ∨ (i = .int .i64 2 ∧ Own w0 wr [(g, 101, (tri (clsN f a) (sigN f a) (xpN f a) (frN f a) (clsN f b) (sigN f b) (xpN f b) (frN f b) 0 0 0 0))]) ∨ (i = .int .i64 3 ∧ Own w0 wr [(g, 101, (tri (clsN f a) (sigN f a) (xpN f a) (frN f a) (clsN f b) (sigN f b) (xpN f b) (frN f b) (clsN f c) (sigN f c) (xpN f c) (frN f c)))])) (fun i _ => 4 - (intOf i).toNat)
 case atStart => exact Or.inl ⟨rfl, H⟩
 case round =>
  clear H
  rcases hrel with ⟨rfl, H⟩ | ⟨rfl, H⟩ | ⟨rfl, H⟩ | ⟨rfl, H⟩
  ·go_wp2_with (first
  | ((with_reducible refine g0_ rfl ?_); refine H.xb ?_; (intro g w H; simp only [Act.put, q1_, q2_, q3_]))
  | ((with_reducible refine g1_ rfl ?_); refine H.xa ?_; (intro g w H; simp only [Act.put, q1_, q2_, q3_]))
  | ((with_reducible refine g2_ rfl ?_); (first | refine H.xl ?_ | refine H.xm ?_); simp only [Act.put, q1_, q2_, q3_])
  | ((with_reducible refine g3_ rfl ?_); (first | refine H.xs ?_ | refine H.xt ?_); (intro w H; simp only [Act.put]))
  | ((with_reducible refine g5_ rfl ?_); refine H.ldo rfl rB rfl rfl hB v6_ (by rfl) ?_; simp only [Act.put, q1_, q2_, q3_])
  | (go_at_call 120; (with_reducible refine H.kc (cUa _ (HT.out.below H.below)) ?_; clear H; intro w H))
  )
   all_goals
    go_roundw
    case rel => exact Or.inr (Or.inl ⟨by go_num, H.sub v5_⟩)
    case measure => simp [intOf]
  ·go_wp2_with (first
  | ((with_reducible refine g0_ rfl ?_); refine H.xb ?_; (intro g w H; simp only [Act.put, q1_, q2_, q3_]))
  | ((with_reducible refine g1_ rfl ?_); refine H.xa ?_; (intro g w H; simp only [Act.put, q1_, q2_, q3_]))
  | ((with_reducible refine g2_ rfl ?_); (first | refine H.xl ?_ | refine H.xm ?_); simp only [Act.put, q1_, q2_, q3_])
  | ((with_reducible refine g3_ rfl ?_); (first | refine H.xs ?_ | refine H.xt ?_); (intro w H; simp only [Act.put]))
  | ((with_reducible refine g5_ rfl ?_); refine H.ldo rfl rB rfl rfl hB (by first | with_reducible exact cat3_1 (bc _) (bc _) (bc _) rfl) (by rfl) ?_; simp only [Act.put, q1_, q2_, q3_])
  | (go_at_call 120; (with_reducible refine H.kc (cUb _ (HT.out.below H.below)) ?_; clear H; intro w H))
  )
   all_goals
    go_roundw
    case rel => exact Or.inr (Or.inr (Or.inl ⟨by go_num, H.sub v5_⟩))
    case measure => simp [intOf]
  ·go_wp2_with (first
  | ((with_reducible refine g0_ rfl ?_); refine H.xb ?_; (intro g w H; simp only [Act.put, q1_, q2_, q3_]))
  | ((with_reducible refine g1_ rfl ?_); refine H.xa ?_; (intro g w H; simp only [Act.put, q1_, q2_, q3_]))
  | ((with_reducible refine g2_ rfl ?_); (first | refine H.xl ?_ | refine H.xm ?_); simp only [Act.put, q1_, q2_, q3_])
  | ((with_reducible refine g3_ rfl ?_); (first | refine H.xs ?_ | refine H.xt ?_); (intro w H; simp only [Act.put]))
  | ((with_reducible refine g5_ rfl ?_); refine H.ldo rfl rB rfl rfl hB (by first | with_reducible exact cat3_2 (bc _) (bc _) (bc _) rfl) (by rfl) ?_; simp only [Act.put, q1_, q2_, q3_])
  | (go_at_call 120; (with_reducible refine H.kc (cUc _ (HT.out.below H.below)) ?_; clear H; intro w H))
  )
   all_goals
    go_roundw
    case rel => exact Or.inr (Or.inr (Or.inr (⟨by go_num, H.sub v5_⟩)))
    case measure => simp [intOf]
  ·go_wp2_with (first
  | ((with_reducible refine g0_ rfl ?_); refine H.xb ?_; (intro g w H; simp only [Act.put, q1_, q2_, q3_]))
  | ((with_reducible refine g1_ rfl ?_); refine H.xa ?_; (intro g w H; simp only [Act.put, q1_, q2_, q3_]))
  | ((with_reducible refine g2_ rfl ?_); (first | refine H.xl ?_ | refine H.xm ?_); simp only [Act.put, q1_, q2_, q3_])
  | ((with_reducible refine g3_ rfl ?_); (first | refine H.xs ?_ | refine H.xt ?_); (intro w H; simp only [Act.put]))
  )
   all_goals
    refine bodyPost_ret (results_ct rfl rfl (H.res rQ v2_ (ext_tri _ _ _ _ _ _ _ _ _ _ _ _) (by rfl))) rfl ⟨?_, H.below⟩
    rfl
theorem fma_canon (f : Nat) (c0 s0 f0 : Nat) (x0 : Int) (c1 s1 f1 : Nat) (x1 : Int) (c2 s2 f2 : Nat) (x2 : Int) (w0 : World) (g0 : Nat) (hB : Blk 100 w0 g0 (cat3 (parts c0 s0 x0 f0) (parts c1 s1 x1 f1) (parts c2 s2 x2 f2))) (cN : CK_ 76 #[.int .u8 f] (BV (nanN f))) :
  CR_ 115 #[.int .u8 f, .slice (some ⟨g0, 0, none⟩) 3 3] w0 (.tuple #[BV (nanN f), .int .u8 (cond (decide (c0 = 8) || decide (c1 = 8) || decide (c2 = 8)) 16 0), .int .i64 0]) := by
 have H := Own.start w0
 go_enter Tryz.func115, Tryz.ntmps115
 go_wp2_with (first
  | ((with_reducible refine g0_ rfl ?_); refine H.xb ?_; (intro g w H; simp only [Act.put, q1_, q2_, q3_]))
  | ((with_reducible refine g1_ rfl ?_); refine H.xa ?_; (intro g w H; simp only [Act.put, q1_, q2_, q3_]))
  | ((with_reducible refine g2_ rfl ?_); (first | refine H.xl ?_ | refine H.xm ?_); simp only [Act.put, q1_, q2_, q3_])
  | ((with_reducible refine g3_ rfl ?_); (first | refine H.xs ?_ | refine H.xt ?_); (intro w H; simp only [Act.put]))
  )
 go_loopw [7, 12] (fun v i wr => (i = .int .i64 0 ∧ v = .int .u8 0 ∧ Own w0 wr [(g, 27, #[.int .u64 0, .int .u64 0])]) ∨ (i = .int .i64 1 ∧ v = .int .u8 (cond (decide (c0 = 8)) 16 0) ∧ Own w0 wr [(g, 27, #[.int .u64 0, .int .u64 0])]) ∨ (i = .int .i64 2 ∧ v = .int .u8 (cond (decide (c0 = 8) || decide (c1 = 8)) 16 0) ∧ Own w0 wr [(g, 27, #[.int .u64 0, .int .u64 0])]) ∨ (i = .int .i64 3 ∧ v = .int .u8 (cond (decide (c0 = 8) || decide (c1 = 8) || decide (c2 = 8)) 16 0) ∧ Own w0 wr [(g, 27, #[.int .u64 0, .int .u64 0])])) (fun _ i _ => 4 - (intOf i).toNat)
 case atStart => exact Or.inl ⟨rfl, rfl, H⟩
 case round =>
  clear H
  rcases hrel with ⟨rfl, rfl, H⟩ | ⟨rfl, rfl, H⟩ | ⟨rfl, rfl, H⟩ | ⟨rfl, rfl, H⟩
  ·by_cases hc : c0 = 8
   ·have e1 : ((c0 : Int) == 8) = true := int_eq_true c0 8 hc
    go_wp2_with (first
  | ((with_reducible refine g0_ rfl ?_); refine H.xb ?_; (intro g w H; simp only [Act.put, q1_, q2_, q3_]))
  | ((with_reducible refine g1_ rfl ?_); refine H.xa ?_; (intro g w H; simp only [Act.put, q1_, q2_, q3_]))
  | ((with_reducible refine g2_ rfl ?_); (first | refine H.xl ?_ | refine H.xm ?_); simp only [Act.put, q1_, q2_, q3_])
  | ((with_reducible refine g3_ rfl ?_); (first | refine H.xs ?_ | refine H.xt ?_); (intro w H; simp only [Act.put]))
  | ((with_reducible refine g13_ rfl ?_); refine H.ldo rfl rP rfl rfl hB (by first | with_reducible exact cat3_0 (parts _ _ _ _) (parts _ _ _ _) (parts _ _ _ _)) (by rfl) ?_; simp only [Act.put, q1_, q2_, q3_])
  )
    all_goals
     go_roundw
     case rel => exact Or.inr (Or.inl ⟨by go_num, (by with_reducible exact flag_on0 _ (by rw [decide_eq_true hc])), H.sub v5_⟩)
     case measure => simp [intOf]
   ·have e1 : ((c0 : Int) == 8) = false := int_eq_false c0 8 hc
    go_wp2_with (first
  | ((with_reducible refine g0_ rfl ?_); refine H.xb ?_; (intro g w H; simp only [Act.put, q1_, q2_, q3_]))
  | ((with_reducible refine g1_ rfl ?_); refine H.xa ?_; (intro g w H; simp only [Act.put, q1_, q2_, q3_]))
  | ((with_reducible refine g2_ rfl ?_); (first | refine H.xl ?_ | refine H.xm ?_); simp only [Act.put, q1_, q2_, q3_])
  | ((with_reducible refine g3_ rfl ?_); (first | refine H.xs ?_ | refine H.xt ?_); (intro w H; simp only [Act.put]))
  | ((with_reducible refine g13_ rfl ?_); refine H.ldo rfl rP rfl rfl hB (by first | with_reducible exact cat3_0 (parts _ _ _ _) (parts _ _ _ _) (parts _ _ _ _)) (by rfl) ?_; simp only [Act.put, q1_, q2_, q3_])
  )
    all_goals
     go_roundw
     case rel => exact Or.inr (Or.inl ⟨by go_num, (by with_reducible exact flag_off0 _ (by rw [decide_eq_false hc])), H.sub v5_⟩)
     case measure => simp [intOf]
  ·by_cases hc : c1 = 8
   ·have e1 : ((c1 : Int) == 8) = true := int_eq_true c1 8 hc
    go_wp2_with (first
  | ((with_reducible refine g0_ rfl ?_); refine H.xb ?_; (intro g w H; simp only [Act.put, q1_, q2_, q3_]))
  | ((with_reducible refine g1_ rfl ?_); refine H.xa ?_; (intro g w H; simp only [Act.put, q1_, q2_, q3_]))
  | ((with_reducible refine g2_ rfl ?_); (first | refine H.xl ?_ | refine H.xm ?_); simp only [Act.put, q1_, q2_, q3_])
  | ((with_reducible refine g3_ rfl ?_); (first | refine H.xs ?_ | refine H.xt ?_); (intro w H; simp only [Act.put]))
  | ((with_reducible refine g13_ rfl ?_); refine H.ldo rfl rP rfl rfl hB (by first | with_reducible exact cat3_1 (parts _ _ _ _) (parts _ _ _ _) (parts _ _ _ _) rfl) (by rfl) ?_; simp only [Act.put, q1_, q2_, q3_])
  )
    all_goals
     go_roundw
     case rel => exact Or.inr (Or.inr (Or.inl ⟨by go_num, (by with_reducible exact flag_on _ _ (by rw [decide_eq_true hc]; simp)), H.sub v5_⟩))
     case measure => simp [intOf]
   ·have e1 : ((c1 : Int) == 8) = false := int_eq_false c1 8 hc
    go_wp2_with (first
  | ((with_reducible refine g0_ rfl ?_); refine H.xb ?_; (intro g w H; simp only [Act.put, q1_, q2_, q3_]))
  | ((with_reducible refine g1_ rfl ?_); refine H.xa ?_; (intro g w H; simp only [Act.put, q1_, q2_, q3_]))
  | ((with_reducible refine g2_ rfl ?_); (first | refine H.xl ?_ | refine H.xm ?_); simp only [Act.put, q1_, q2_, q3_])
  | ((with_reducible refine g3_ rfl ?_); (first | refine H.xs ?_ | refine H.xt ?_); (intro w H; simp only [Act.put]))
  | ((with_reducible refine g13_ rfl ?_); refine H.ldo rfl rP rfl rfl hB (by first | with_reducible exact cat3_1 (parts _ _ _ _) (parts _ _ _ _) (parts _ _ _ _) rfl) (by rfl) ?_; simp only [Act.put, q1_, q2_, q3_])
  )
    all_goals
     go_roundw
     case rel => exact Or.inr (Or.inr (Or.inl ⟨by go_num, (by with_reducible exact flag_off _ _ (by rw [decide_eq_false hc]; simp)), H.sub v5_⟩))
     case measure => simp [intOf]
  ·by_cases hc : c2 = 8
   ·have e1 : ((c2 : Int) == 8) = true := int_eq_true c2 8 hc
    go_wp2_with (first
  | ((with_reducible refine g0_ rfl ?_); refine H.xb ?_; (intro g w H; simp only [Act.put, q1_, q2_, q3_]))
  | ((with_reducible refine g1_ rfl ?_); refine H.xa ?_; (intro g w H; simp only [Act.put, q1_, q2_, q3_]))
  | ((with_reducible refine g2_ rfl ?_); (first | refine H.xl ?_ | refine H.xm ?_); simp only [Act.put, q1_, q2_, q3_])
  | ((with_reducible refine g3_ rfl ?_); (first | refine H.xs ?_ | refine H.xt ?_); (intro w H; simp only [Act.put]))
  | ((with_reducible refine g13_ rfl ?_); refine H.ldo rfl rP rfl rfl hB (by first | with_reducible exact cat3_2 (parts _ _ _ _) (parts _ _ _ _) (parts _ _ _ _) rfl) (by rfl) ?_; simp only [Act.put, q1_, q2_, q3_])
  )
    all_goals
     go_roundw
     case rel => exact Or.inr (Or.inr (Or.inr (⟨by go_num, (by with_reducible exact flag_on _ _ (by rw [decide_eq_true hc]; simp)), H.sub v5_⟩)))
     case measure => simp [intOf]
   ·have e1 : ((c2 : Int) == 8) = false := int_eq_false c2 8 hc
    go_wp2_with (first
  | ((with_reducible refine g0_ rfl ?_); refine H.xb ?_; (intro g w H; simp only [Act.put, q1_, q2_, q3_]))
  | ((with_reducible refine g1_ rfl ?_); refine H.xa ?_; (intro g w H; simp only [Act.put, q1_, q2_, q3_]))
  | ((with_reducible refine g2_ rfl ?_); (first | refine H.xl ?_ | refine H.xm ?_); simp only [Act.put, q1_, q2_, q3_])
  | ((with_reducible refine g3_ rfl ?_); (first | refine H.xs ?_ | refine H.xt ?_); (intro w H; simp only [Act.put]))
  | ((with_reducible refine g13_ rfl ?_); refine H.ldo rfl rP rfl rfl hB (by first | with_reducible exact cat3_2 (parts _ _ _ _) (parts _ _ _ _) (parts _ _ _ _) rfl) (by rfl) ?_; simp only [Act.put, q1_, q2_, q3_])
  )
    all_goals
     go_roundw
     case rel => exact Or.inr (Or.inr (Or.inr (⟨by go_num, (by with_reducible exact flag_off _ _ (by rw [decide_eq_false hc]; simp)), H.sub v5_⟩)))
     case measure => simp [intOf]
  ·go_wp2_with (first
  | ((with_reducible refine g0_ rfl ?_); refine H.xb ?_; (intro g w H; simp only [Act.put, q1_, q2_, q3_]))
  | ((with_reducible refine g1_ rfl ?_); refine H.xa ?_; (intro g w H; simp only [Act.put, q1_, q2_, q3_]))
  | ((with_reducible refine g2_ rfl ?_); (first | refine H.xl ?_ | refine H.xm ?_); simp only [Act.put, q1_, q2_, q3_])
  | ((with_reducible refine g3_ rfl ?_); (first | refine H.xs ?_ | refine H.xt ?_); (intro w H; simp only [Act.put]))
  | (go_at_call 76; (with_reducible refine H.kc (cN _) ?_; clear H; intro w H))
  )
   all_goals
    refine bodyPost_ret (results_ctt rfl rfl (H.res rB v2_ v3_ (by rfl))) rfl ⟨?_, H.below⟩
    rfl
theorem odd_lim (n : Nat) : (Go.bits .and .u64 (limb n 0) 1 == 1) = decide (n % 2 = 1) := by
 have h1 : (1 : Int) = limb 1 0 := rfl
 rw [h1, limb_and, show n &&& 1 = n % 2 from Nat.and_one_is_mod n, ← h1]
 unfold limb limbN
 rw [Nat.mul_zero, Nat.pow_zero, Nat.div_one, Nat.mod_eq_of_lt (by omega), Bool.eq_iff_iff, beq_iff_eq, decide_eq_true_iff]
 omega
theorem halfN_in (a n : Nat) : halfN a n = -1 ∨ halfN a n = 0 ∨ halfN a n = 1 := by
 unfold halfN
 split
 ·simp
 ·split
  ·split <;> simp
  ·simp
theorem roundGrid_any (m s : Nat) (e at_ : Int) (neg mo : Bool) (w : World) (hT : Tab w) (hm : m < 256) (hs : s < top6) (h1 : -2000000 ≤ e) (h2 : e ≤ 2000000) (h3 : -2000000 ≤ at_) (h4 : at_ ≤ 2000000) (hf : e - at_ ≤ 384) :
  CR_ 144 #[.int .u8 m, RV neg s e mo, .int .i64 at_] w (.tuple #[W (gridN m neg s e mo at_).1, .bool (gridN m neg s e mo at_).2]) := by
 by_cases hn : at_ ≤ e
 ·have cL := fun w => wideLeft_any s (-(at_ - e)) w hs
  have hc : clip (-(at_ - e)) = (e - at_).toNat := by unfold clip; omega
  rw [hc] at cL
  have := roundGrid_up m s _ e at_ (at_ - e) neg mo _ w hT h1 h2 h3 h4 rfl (by omega) cL
  simp only [gridN, if_pos hn]
  exact this
 ·have cC := fun w hT => jamCut_any s (at_ - e) w hs hT
  have hin := halfN_in s (at_ - e).toNat
  have cR := fun (half : Int) (hh : half = -1 ∨ half = 0 ∨ half = 1) (ex : Bool) w => roundUp_any m neg (Go.bits .and .u64 (limb (s / 2 ^ (at_ - e).toNat) 0) 1 == 1) half ex w hm hh
  simp only [gridN, if_neg hn]
  cases mo with
  | false =>
   simp only [Bool.false_and, cond_false, Bool.not_false, Bool.and_true]
   have cR' := cR _ hin (decide (s % 2 ^ (at_ - e).toNat = 0))
   rw [← odd_lim]
   cases hu : upB m neg (Go.bits .and .u64 (limb (s / 2 ^ (at_ - e).toNat) 0) 1 == 1) (halfN s (at_ - e).toNat) (decide (s % 2 ^ (at_ - e).toNat = 0)) with
   | true =>
    rw [hu] at cR'
    exact roundGrid_f_t m s _ e at_ (at_ - e) _ neg _ w hT h1 h2 h3 h4 rfl (by omega) cC cR'
   | false =>
    rw [hu] at cR'
    exact roundGrid_f_f m s _ e at_ (at_ - e) _ neg _ w hT h1 h2 h3 h4 rfl (by omega) cC cR'
  | true =>
   simp only [Bool.true_and, Bool.not_true, Bool.and_false]
   rw [← odd_lim]
   by_cases hz : halfN s (at_ - e).toNat = 0
   ·have hz' : (halfN s (at_ - e).toNat == 0) = true := by rw [hz]; rfl
    have cR' := cR 1 (by omega) false
    rw [decide_eq_true hz, cond_true]
    cases hu : upB m neg (Go.bits .and .u64 (limb (s / 2 ^ (at_ - e).toNat) 0) 1 == 1) 1 false with
    | true =>
     rw [hu] at cR'
     exact roundGrid_tz_t m s _ e at_ (at_ - e) _ neg _ w hT h1 h2 h3 h4 rfl (by omega) hz' cC cR'
    | false =>
     rw [hu] at cR'
     exact roundGrid_tz_f m s _ e at_ (at_ - e) _ neg _ w hT h1 h2 h3 h4 rfl (by omega) hz' cC cR'
   ·have hz' : (halfN s (at_ - e).toNat == 0) = false := by rw [beq_eq_false_iff_ne]; exact hz
    have cR' := cR _ hin false
    rw [decide_eq_false hz, cond_false]
    cases hu : upB m neg (Go.bits .and .u64 (limb (s / 2 ^ (at_ - e).toNat) 0) 1 == 1) (halfN s (at_ - e).toNat) false with
    | true =>
     rw [hu] at cR'
     exact roundGrid_tn_t m s _ e at_ (at_ - e) _ neg _ w hT h1 h2 h3 h4 rfl (by omega) hz' cC cR'
    | false =>
     rw [hu] at cR'
     exact roundGrid_tn_f m s _ e at_ (at_ - e) _ neg _ w hT h1 h2 h3 h4 rfl (by omega) hz' cC cR'
end Go.Proofs.YtgmhmpflmgfcdaaGreatDoor
