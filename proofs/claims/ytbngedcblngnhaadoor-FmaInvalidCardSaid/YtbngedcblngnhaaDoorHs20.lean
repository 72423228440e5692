/- Part 20 of what is proved: Opm, Mua. -/
import Derived.Test.YtbngedcblngnhaaDoorHs0
import Derived.Test.YtbngedcblngnhaaDoorHs1
import Derived.Test.YtbngedcblngnhaaDoorHs4
import Derived.Test.YtbngedcblngnhaaDoorHs5
import Derived.Test.YtbngedcblngnhaaDoorHs10
set_option linter.unusedSimpArgs false
set_option linter.unusedVariables false
set_option linter.unnecessarySimpa false
set_option maxRecDepth 100000
set_option maxHeartbeats 1600000
namespace Go.Proofs.YtbngedcblngnhaaDoor
open Go.RowKit
theorem mul_open2_mode (f m a b : Nat) (w0 : World) (g0 : Nat) (hB : Blk 26 w0 g0 (cat2 (bc a) (bc b))) (cM : ∀ w, Calls Tryd.prog 9 #[.int .u8 m] w fun e w' => e = .returned (.int .i64 2) ∧ w = w') :
    Calls Tryd.prog 54 #[.int .u8 f, .int .u8 m, .slice (some ⟨g0, 0, none⟩) 2 2] w0 fun e w' => e = .returned (.tuple #[.agg (tri 0 0 0 0 0 0 0 0 0 0 0 0), .bool false]) ∧ Below w0.heap.size w0 w' := by
  have H := Own.start w0
  go_enter Tryd.func54, Tryd.ntmps54
  exact walk7
theorem mul_open2_form (f m a b : Nat) (w0 : World) (g0 : Nat) (hB : Blk 26 w0 g0 (cat2 (bc a) (bc b))) (cM : ∀ w, Calls Tryd.prog 9 #[.int .u8 m] w fun e w' => e = .returned (.int .i64 0) ∧ w = w') (cF : ∀ w, Calls Tryd.prog 16 #[.int .u8 f] w fun e w' => e = .returned (.int .i64 2) ∧ w = w') :
    Calls Tryd.prog 54 #[.int .u8 f, .int .u8 m, .slice (some ⟨g0, 0, none⟩) 2 2] w0 fun e w' => e = .returned (.tuple #[.agg (tri 0 0 0 0 0 0 0 0 0 0 0 0), .bool false]) ∧ Below w0.heap.size w0 w' := by
  have H := Own.start w0
  go_enter Tryd.func54, Tryd.ntmps54
  exact walk7
theorem mul_open2_no0 (f m a b : Nat) (w0 : World) (hT : Tab w0) (g0 : Nat) (hB : Blk 26 w0 g0 (cat2 (bc a) (bc b))) (cM : ∀ w, Calls Tryd.prog 9 #[.int .u8 m] w fun e w' => e = .returned (.int .i64 0) ∧ w = w') (cF : ∀ w, Calls Tryd.prog 16 #[.int .u8 f] w fun e w' => e = .returned (.int .i64 0) ∧ w = w') (cUa : ∀ w, Tab w → Calls Tryd.prog 66 #[.int .u8 f, BV a] w fun e w' => e = .returned (.tuple #[.agg PZ, .int .i64 2]) ∧ Below w.heap.size w w') :
    Calls Tryd.prog 54 #[.int .u8 f, .int .u8 m, .slice (some ⟨g0, 0, none⟩) 2 2] w0 fun e w' => e = .returned (.tuple #[.agg (tri 0 0 0 0 0 0 0 0 0 0 0 0), .bool false]) ∧ Below w0.heap.size w0 w' := by
  have H := Own.start w0
  have HT := Lib.hid hT
  clear hT
  go_enter Tryd.func54, Tryd.ntmps54
  go_wp2_with (first
    | ((with_reducible show wpList _ _ _ (⟨_, .box _ _, _, _, _, _⟩ :: _) _ _); refine H.xb ?_; (intro g w H; simp only [Act.put, q1_, q2_, q3_]))
    | ((with_reducible show wpList _ _ _ (⟨_, .alloc _, _, _, _, _⟩ :: _) _ _); refine H.xa ?_; (intro g w H; simp only [Act.put, q1_, q2_, q3_]))
    | ((with_reducible show wpList _ _ _ (⟨_, .load _ _, _, _, _, _⟩ :: _) _ _); (first | refine H.xl ?_ | refine H.xm ?_); simp only [Act.put, q1_, q2_, q3_])
    | ((with_reducible show wpList _ _ _ (⟨_, .store _ _ _, _, _, _, _⟩ :: _) _ _); (first | refine H.xs ?_ | refine H.xt ?_); (intro w H; simp only [Act.put]))
    | ((with_reducible show wpList _ _ _ (⟨_, .load 26 _, _, _, _, _⟩ :: _) _ _); refine H.ldo rfl rB rfl rfl hB v7_ (by rfl) ?_; simp only [Act.put, q1_, q2_, q3_])
    | (go_at_call 9; ((with_reducible refine (cM _).mono ?_); rintro e w' ⟨rfl, rfl⟩))
    | (go_at_call 16; ((with_reducible refine (cF _).mono ?_); rintro e w' ⟨rfl, rfl⟩))
    | (go_at_call 66; ((with_reducible refine (cUa _ (HT.out.below H.below)).mono ?_); rintro e w ⟨rfl, hb⟩; replace H := H.call hb; clear hb))
    )
  go_loopw [23] (fun i wr => (i = .int .i64 0 ∧ Own w0 wr [(g, 52, (tri 0 0 0 0 0 0 0 0 0 0 0 0))])) (fun i _ => 3 - (intOf i).toNat)
  case atStart => exact ⟨rfl, H⟩
  case round =>
    clear H
    obtain ⟨rfl, H⟩ := hrel
    · go_wp2_with (first
    | ((with_reducible show wpList _ _ _ (⟨_, .box _ _, _, _, _, _⟩ :: _) _ _); refine H.xb ?_; (intro g w H; simp only [Act.put, q1_, q2_, q3_]))
    | ((with_reducible show wpList _ _ _ (⟨_, .alloc _, _, _, _, _⟩ :: _) _ _); refine H.xa ?_; (intro g w H; simp only [Act.put, q1_, q2_, q3_]))
    | ((with_reducible show wpList _ _ _ (⟨_, .load _ _, _, _, _, _⟩ :: _) _ _); (first | refine H.xl ?_ | refine H.xm ?_); simp only [Act.put, q1_, q2_, q3_])
    | ((with_reducible show wpList _ _ _ (⟨_, .store _ _ _, _, _, _, _⟩ :: _) _ _); (first | refine H.xs ?_ | refine H.xt ?_); (intro w H; simp only [Act.put]))
    | ((with_reducible show wpList _ _ _ (⟨_, .load 26 _, _, _, _, _⟩ :: _) _ _); refine H.ldo rfl rB rfl rfl hB v7_ (by rfl) ?_; simp only [Act.put, q1_, q2_, q3_])
    | (go_at_call 9; ((with_reducible refine (cM _).mono ?_); rintro e w' ⟨rfl, rfl⟩))
    | (go_at_call 16; ((with_reducible refine (cF _).mono ?_); rintro e w' ⟨rfl, rfl⟩))
    | (go_at_call 66; ((with_reducible refine (cUa _ (HT.out.below H.below)).mono ?_); rintro e w ⟨rfl, hb⟩; replace H := H.call hb; clear hb))
    )
      all_goals
        refine bodyPost_ret (results_ct rfl rfl (H.res rQ v4_ (ext_tri _ _ _ _ _ _ _ _ _ _ _ _) (by rfl))) rfl ⟨?_, H.below⟩
        rfl
theorem mul_open2_no1 (f m a b : Nat) (w0 : World) (hT : Tab w0) (g0 : Nat) (hB : Blk 26 w0 g0 (cat2 (bc a) (bc b))) (cM : ∀ w, Calls Tryd.prog 9 #[.int .u8 m] w fun e w' => e = .returned (.int .i64 0) ∧ w = w') (cF : ∀ w, Calls Tryd.prog 16 #[.int .u8 f] w fun e w' => e = .returned (.int .i64 0) ∧ w = w') (cUa : ∀ w, Tab w → Calls Tryd.prog 66 #[.int .u8 f, BV a] w fun e w' => e = .returned (.tuple #[.agg (PT f a), .int .i64 0]) ∧ Below w.heap.size w w') (cUb : ∀ w, Tab w → Calls Tryd.prog 66 #[.int .u8 f, BV b] w fun e w' => e = .returned (.tuple #[.agg PZ, .int .i64 2]) ∧ Below w.heap.size w w') :
    Calls Tryd.prog 54 #[.int .u8 f, .int .u8 m, .slice (some ⟨g0, 0, none⟩) 2 2] w0 fun e w' => e = .returned (.tuple #[.agg (tri (clsN f a) (sigN f a) (xpN f a) (frN f a) 0 0 0 0 0 0 0 0), .bool false]) ∧ Below w0.heap.size w0 w' := by
  have H := Own.start w0
  have HT := Lib.hid hT
  clear hT
  go_enter Tryd.func54, Tryd.ntmps54
  go_wp2_with (first
    | ((with_reducible show wpList _ _ _ (⟨_, .box _ _, _, _, _, _⟩ :: _) _ _); refine H.xb ?_; (intro g w H; simp only [Act.put, q1_, q2_, q3_]))
    | ((with_reducible show wpList _ _ _ (⟨_, .alloc _, _, _, _, _⟩ :: _) _ _); refine H.xa ?_; (intro g w H; simp only [Act.put, q1_, q2_, q3_]))
    | ((with_reducible show wpList _ _ _ (⟨_, .load _ _, _, _, _, _⟩ :: _) _ _); (first | refine H.xl ?_ | refine H.xm ?_); simp only [Act.put, q1_, q2_, q3_])
    | ((with_reducible show wpList _ _ _ (⟨_, .store _ _ _, _, _, _, _⟩ :: _) _ _); (first | refine H.xs ?_ | refine H.xt ?_); (intro w H; simp only [Act.put]))
    | ((with_reducible show wpList _ _ _ (⟨_, .load 26 _, _, _, _, _⟩ :: _) _ _); refine H.ldo rfl rB rfl rfl hB v7_ (by rfl) ?_; simp only [Act.put, q1_, q2_, q3_])
    | (go_at_call 9; ((with_reducible refine (cM _).mono ?_); rintro e w' ⟨rfl, rfl⟩))
    | (go_at_call 16; ((with_reducible refine (cF _).mono ?_); rintro e w' ⟨rfl, rfl⟩))
    | (go_at_call 66; ((with_reducible refine (cUa _ (HT.out.below H.below)).mono ?_); rintro e w ⟨rfl, hb⟩; replace H := H.call hb; clear hb))
    | (go_at_call 66; ((with_reducible refine (cUb _ (HT.out.below H.below)).mono ?_); rintro e w ⟨rfl, hb⟩; replace H := H.call hb; clear hb))
    )
  go_loopw [23] (fun i wr => (i = .int .i64 0 ∧ Own w0 wr [(g, 52, (tri 0 0 0 0 0 0 0 0 0 0 0 0))]) ∨ (i = .int .i64 1 ∧ Own w0 wr [(g, 52, (tri (clsN f a) (sigN f a) (xpN f a) (frN f a) 0 0 0 0 0 0 0 0))])) (fun i _ => 3 - (intOf i).toNat)
  case atStart => exact Or.inl ⟨rfl, H⟩
  case round =>
    clear H
    rcases hrel with ⟨rfl, H⟩ | ⟨rfl, H⟩
    · go_wp2_with (first
    | ((with_reducible show wpList _ _ _ (⟨_, .box _ _, _, _, _, _⟩ :: _) _ _); refine H.xb ?_; (intro g w H; simp only [Act.put, q1_, q2_, q3_]))
    | ((with_reducible show wpList _ _ _ (⟨_, .alloc _, _, _, _, _⟩ :: _) _ _); refine H.xa ?_; (intro g w H; simp only [Act.put, q1_, q2_, q3_]))
    | ((with_reducible show wpList _ _ _ (⟨_, .load _ _, _, _, _, _⟩ :: _) _ _); (first | refine H.xl ?_ | refine H.xm ?_); simp only [Act.put, q1_, q2_, q3_])
    | ((with_reducible show wpList _ _ _ (⟨_, .store _ _ _, _, _, _, _⟩ :: _) _ _); (first | refine H.xs ?_ | refine H.xt ?_); (intro w H; simp only [Act.put]))
    | ((with_reducible show wpList _ _ _ (⟨_, .load 26 _, _, _, _, _⟩ :: _) _ _); refine H.ldo rfl rB rfl rfl hB v7_ (by rfl) ?_; simp only [Act.put, q1_, q2_, q3_])
    | (go_at_call 9; ((with_reducible refine (cM _).mono ?_); rintro e w' ⟨rfl, rfl⟩))
    | (go_at_call 16; ((with_reducible refine (cF _).mono ?_); rintro e w' ⟨rfl, rfl⟩))
    | (go_at_call 66; ((with_reducible refine (cUa _ (HT.out.below H.below)).mono ?_); rintro e w ⟨rfl, hb⟩; replace H := H.call hb; clear hb))
    | (go_at_call 66; ((with_reducible refine (cUb _ (HT.out.below H.below)).mono ?_); rintro e w ⟨rfl, hb⟩; replace H := H.call hb; clear hb))
    )
      all_goals
        go_roundw
        case rel => exact Or.inr (⟨by go_num, H.sub v5_⟩)
        case measure => simp [intOf]
    · go_wp2_with (first
    | ((with_reducible show wpList _ _ _ (⟨_, .box _ _, _, _, _, _⟩ :: _) _ _); refine H.xb ?_; (intro g w H; simp only [Act.put, q1_, q2_, q3_]))
    | ((with_reducible show wpList _ _ _ (⟨_, .alloc _, _, _, _, _⟩ :: _) _ _); refine H.xa ?_; (intro g w H; simp only [Act.put, q1_, q2_, q3_]))
    | ((with_reducible show wpList _ _ _ (⟨_, .load _ _, _, _, _, _⟩ :: _) _ _); (first | refine H.xl ?_ | refine H.xm ?_); simp only [Act.put, q1_, q2_, q3_])
    | ((with_reducible show wpList _ _ _ (⟨_, .store _ _ _, _, _, _, _⟩ :: _) _ _); (first | refine H.xs ?_ | refine H.xt ?_); (intro w H; simp only [Act.put]))
    | ((with_reducible show wpList _ _ _ (⟨_, .load 26 _, _, _, _, _⟩ :: _) _ _); refine H.ldo rfl rB rfl rfl hB v7_ (by rfl) ?_; simp only [Act.put, q1_, q2_, q3_])
    | (go_at_call 9; ((with_reducible refine (cM _).mono ?_); rintro e w' ⟨rfl, rfl⟩))
    | (go_at_call 16; ((with_reducible refine (cF _).mono ?_); rintro e w' ⟨rfl, rfl⟩))
    | (go_at_call 66; ((with_reducible refine (cUa _ (HT.out.below H.below)).mono ?_); rintro e w ⟨rfl, hb⟩; replace H := H.call hb; clear hb))
    | (go_at_call 66; ((with_reducible refine (cUb _ (HT.out.below H.below)).mono ?_); rintro e w ⟨rfl, hb⟩; replace H := H.call hb; clear hb))
    )
      all_goals
        refine bodyPost_ret (results_ct rfl rfl (H.res rQ v4_ (ext_tri _ _ _ _ _ _ _ _ _ _ _ _) (by rfl))) rfl ⟨?_, H.below⟩
        rfl
theorem mul_open2_ok (f m a b : Nat) (w0 : World) (hT : Tab w0) (g0 : Nat) (hB : Blk 26 w0 g0 (cat2 (bc a) (bc b))) (cM : ∀ w, Calls Tryd.prog 9 #[.int .u8 m] w fun e w' => e = .returned (.int .i64 0) ∧ w = w') (cF : ∀ w, Calls Tryd.prog 16 #[.int .u8 f] w fun e w' => e = .returned (.int .i64 0) ∧ w = w') (cUa : ∀ w, Tab w → Calls Tryd.prog 66 #[.int .u8 f, BV a] w fun e w' => e = .returned (.tuple #[.agg (PT f a), .int .i64 0]) ∧ Below w.heap.size w w') (cUb : ∀ w, Tab w → Calls Tryd.prog 66 #[.int .u8 f, BV b] w fun e w' => e = .returned (.tuple #[.agg (PT f b), .int .i64 0]) ∧ Below w.heap.size w w') :
    Calls Tryd.prog 54 #[.int .u8 f, .int .u8 m, .slice (some ⟨g0, 0, none⟩) 2 2] w0 fun e w' => e = .returned (.tuple #[.agg (tri (clsN f a) (sigN f a) (xpN f a) (frN f a) (clsN f b) (sigN f b) (xpN f b) (frN f b) 0 0 0 0), .bool true]) ∧ Below w0.heap.size w0 w' := by
  have H := Own.start w0
  have HT := Lib.hid hT
  clear hT
  go_enter Tryd.func54, Tryd.ntmps54
  go_wp2_with (first
    | ((with_reducible show wpList _ _ _ (⟨_, .box _ _, _, _, _, _⟩ :: _) _ _); refine H.xb ?_; (intro g w H; simp only [Act.put, q1_, q2_, q3_]))
    | ((with_reducible show wpList _ _ _ (⟨_, .alloc _, _, _, _, _⟩ :: _) _ _); refine H.xa ?_; (intro g w H; simp only [Act.put, q1_, q2_, q3_]))
    | ((with_reducible show wpList _ _ _ (⟨_, .load _ _, _, _, _, _⟩ :: _) _ _); (first | refine H.xl ?_ | refine H.xm ?_); simp only [Act.put, q1_, q2_, q3_])
    | ((with_reducible show wpList _ _ _ (⟨_, .store _ _ _, _, _, _, _⟩ :: _) _ _); (first | refine H.xs ?_ | refine H.xt ?_); (intro w H; simp only [Act.put]))
    | ((with_reducible show wpList _ _ _ (⟨_, .load 26 _, _, _, _, _⟩ :: _) _ _); refine H.ldo rfl rB rfl rfl hB v7_ (by rfl) ?_; simp only [Act.put, q1_, q2_, q3_])
    | (go_at_call 9; ((with_reducible refine (cM _).mono ?_); rintro e w' ⟨rfl, rfl⟩))
    | (go_at_call 16; ((with_reducible refine (cF _).mono ?_); rintro e w' ⟨rfl, rfl⟩))
    | (go_at_call 66; ((with_reducible refine (cUa _ (HT.out.below H.below)).mono ?_); rintro e w ⟨rfl, hb⟩; replace H := H.call hb; clear hb))
    | (go_at_call 66; ((with_reducible refine (cUb _ (HT.out.below H.below)).mono ?_); rintro e w ⟨rfl, hb⟩; replace H := H.call hb; clear hb))
    )
  go_loopw [23] (fun i wr => (i = .int .i64 0 ∧ Own w0 wr [(g, 52, (tri 0 0 0 0 0 0 0 0 0 0 0 0))]) ∨ (i = .int .i64 1 ∧ Own w0 wr [(g, 52, (tri (clsN f a) (sigN f a) (xpN f a) (frN f a) 0 0 0 0 0 0 0 0))]) ∨ (i = .int .i64 2 ∧ Own w0 wr [(g, 52, (tri (clsN f a) (sigN f a) (xpN f a) (frN f a) (clsN f b) (sigN f b) (xpN f b) (frN f b) 0 0 0 0))])) (fun i _ => 3 - (intOf i).toNat)
  case atStart => exact Or.inl ⟨rfl, H⟩
  case round =>
    clear H
    rcases hrel with ⟨rfl, H⟩ | ⟨rfl, H⟩ | ⟨rfl, H⟩
    · go_wp2_with (first
    | ((with_reducible show wpList _ _ _ (⟨_, .box _ _, _, _, _, _⟩ :: _) _ _); refine H.xb ?_; (intro g w H; simp only [Act.put, q1_, q2_, q3_]))
    | ((with_reducible show wpList _ _ _ (⟨_, .alloc _, _, _, _, _⟩ :: _) _ _); refine H.xa ?_; (intro g w H; simp only [Act.put, q1_, q2_, q3_]))
    | ((with_reducible show wpList _ _ _ (⟨_, .load _ _, _, _, _, _⟩ :: _) _ _); (first | refine H.xl ?_ | refine H.xm ?_); simp only [Act.put, q1_, q2_, q3_])
    | ((with_reducible show wpList _ _ _ (⟨_, .store _ _ _, _, _, _, _⟩ :: _) _ _); (first | refine H.xs ?_ | refine H.xt ?_); (intro w H; simp only [Act.put]))
    | ((with_reducible show wpList _ _ _ (⟨_, .load 26 _, _, _, _, _⟩ :: _) _ _); refine H.ldo rfl rB rfl rfl hB v7_ (by rfl) ?_; simp only [Act.put, q1_, q2_, q3_])
    | (go_at_call 9; ((with_reducible refine (cM _).mono ?_); rintro e w' ⟨rfl, rfl⟩))
    | (go_at_call 16; ((with_reducible refine (cF _).mono ?_); rintro e w' ⟨rfl, rfl⟩))
    | (go_at_call 66; ((with_reducible refine (cUa _ (HT.out.below H.below)).mono ?_); rintro e w ⟨rfl, hb⟩; replace H := H.call hb; clear hb))
    | (go_at_call 66; ((with_reducible refine (cUb _ (HT.out.below H.below)).mono ?_); rintro e w ⟨rfl, hb⟩; replace H := H.call hb; clear hb))
    )
      all_goals
        go_roundw
        case rel => exact Or.inr (Or.inl ⟨by go_num, H.sub v5_⟩)
        case measure => simp [intOf]
    · go_wp2_with (first
    | ((with_reducible show wpList _ _ _ (⟨_, .box _ _, _, _, _, _⟩ :: _) _ _); refine H.xb ?_; (intro g w H; simp only [Act.put, q1_, q2_, q3_]))
    | ((with_reducible show wpList _ _ _ (⟨_, .alloc _, _, _, _, _⟩ :: _) _ _); refine H.xa ?_; (intro g w H; simp only [Act.put, q1_, q2_, q3_]))
    | ((with_reducible show wpList _ _ _ (⟨_, .load _ _, _, _, _, _⟩ :: _) _ _); (first | refine H.xl ?_ | refine H.xm ?_); simp only [Act.put, q1_, q2_, q3_])
    | ((with_reducible show wpList _ _ _ (⟨_, .store _ _ _, _, _, _, _⟩ :: _) _ _); (first | refine H.xs ?_ | refine H.xt ?_); (intro w H; simp only [Act.put]))
    | ((with_reducible show wpList _ _ _ (⟨_, .load 26 _, _, _, _, _⟩ :: _) _ _); refine H.ldo rfl rB rfl rfl hB v7_ (by rfl) ?_; simp only [Act.put, q1_, q2_, q3_])
    | (go_at_call 9; ((with_reducible refine (cM _).mono ?_); rintro e w' ⟨rfl, rfl⟩))
    | (go_at_call 16; ((with_reducible refine (cF _).mono ?_); rintro e w' ⟨rfl, rfl⟩))
    | (go_at_call 66; ((with_reducible refine (cUa _ (HT.out.below H.below)).mono ?_); rintro e w ⟨rfl, hb⟩; replace H := H.call hb; clear hb))
    | (go_at_call 66; ((with_reducible refine (cUb _ (HT.out.below H.below)).mono ?_); rintro e w ⟨rfl, hb⟩; replace H := H.call hb; clear hb))
    )
      all_goals
        go_roundw
        case rel => exact Or.inr (Or.inr (⟨by go_num, H.sub v5_⟩))
        case measure => simp [intOf]
    · go_wp2_with (first
    | ((with_reducible show wpList _ _ _ (⟨_, .box _ _, _, _, _, _⟩ :: _) _ _); refine H.xb ?_; (intro g w H; simp only [Act.put, q1_, q2_, q3_]))
    | ((with_reducible show wpList _ _ _ (⟨_, .alloc _, _, _, _, _⟩ :: _) _ _); refine H.xa ?_; (intro g w H; simp only [Act.put, q1_, q2_, q3_]))
    | ((with_reducible show wpList _ _ _ (⟨_, .load _ _, _, _, _, _⟩ :: _) _ _); (first | refine H.xl ?_ | refine H.xm ?_); simp only [Act.put, q1_, q2_, q3_])
    | ((with_reducible show wpList _ _ _ (⟨_, .store _ _ _, _, _, _, _⟩ :: _) _ _); (first | refine H.xs ?_ | refine H.xt ?_); (intro w H; simp only [Act.put]))
    | ((with_reducible show wpList _ _ _ (⟨_, .load 26 _, _, _, _, _⟩ :: _) _ _); refine H.ldo rfl rB rfl rfl hB v7_ (by rfl) ?_; simp only [Act.put, q1_, q2_, q3_])
    | (go_at_call 9; ((with_reducible refine (cM _).mono ?_); rintro e w' ⟨rfl, rfl⟩))
    | (go_at_call 16; ((with_reducible refine (cF _).mono ?_); rintro e w' ⟨rfl, rfl⟩))
    | (go_at_call 66; ((with_reducible refine (cUa _ (HT.out.below H.below)).mono ?_); rintro e w ⟨rfl, hb⟩; replace H := H.call hb; clear hb))
    | (go_at_call 66; ((with_reducible refine (cUb _ (HT.out.below H.below)).mono ?_); rintro e w ⟨rfl, hb⟩; replace H := H.call hb; clear hb))
    )
      all_goals
        refine bodyPost_ret (results_ct rfl rfl (H.res rQ v4_ (ext_tri _ _ _ _ _ _ _ _ _ _ _ _) (by rfl))) rfl ⟨?_, H.below⟩
        rfl
theorem mul_canon (f : Nat) (c0 s0 f0 : Nat) (x0 : Int) (c1 s1 f1 : Nat) (x1 : Int) (w0 : World) (g0 : Nat) (hB : Blk 51 w0 g0 (cat2 (parts c0 s0 x0 f0) (parts c1 s1 x1 f1))) (cN : ∀ w, Calls Tryd.prog 19 #[.int .u8 f] w fun e w' => e = .returned (BV (nanN f)) ∧ Below w.heap.size w w') :
    Calls Tryd.prog 57 #[.int .u8 f, .slice (some ⟨g0, 0, none⟩) 2 2] w0 fun e w' => e = .returned (.tuple #[BV (nanN f), .int .u8 (cond (decide (c0 = 8) || decide (c1 = 8)) 16 0), .int .i64 0]) ∧ Below w0.heap.size w0 w' := by
  have H := Own.start w0
  go_enter Tryd.func57, Tryd.ntmps57
  go_wp2_with (first
    | ((with_reducible show wpList _ _ _ (⟨_, .box _ _, _, _, _, _⟩ :: _) _ _); refine H.xb ?_; (intro g w H; simp only [Act.put, q1_, q2_, q3_]))
    | ((with_reducible show wpList _ _ _ (⟨_, .alloc _, _, _, _, _⟩ :: _) _ _); refine H.xa ?_; (intro g w H; simp only [Act.put, q1_, q2_, q3_]))
    | ((with_reducible show wpList _ _ _ (⟨_, .load _ _, _, _, _, _⟩ :: _) _ _); (first | refine H.xl ?_ | refine H.xm ?_); simp only [Act.put, q1_, q2_, q3_])
    | ((with_reducible show wpList _ _ _ (⟨_, .store _ _ _, _, _, _, _⟩ :: _) _ _); (first | refine H.xs ?_ | refine H.xt ?_); (intro w H; simp only [Act.put]))
    | ((with_reducible show wpList _ _ _ (⟨_, .load 51 _, _, _, _, _⟩ :: _) _ _); refine H.ldo rfl rP rfl rfl hB v8_ (by rfl) ?_; simp only [Act.put, q1_, q2_, q3_])
    | (go_at_call 19; ((with_reducible refine (cN _).mono ?_); rintro e w ⟨rfl, hb⟩; replace H := H.call hb; clear hb))
    )
  go_loopw [7, 12] (fun v i wr => (i = .int .i64 0 ∧ v = .int .u8 0 ∧ Own w0 wr [(g, 26, #[.int .u64 0, .int .u64 0])]) ∨ (i = .int .i64 1 ∧ v = .int .u8 (cond (decide (c0 = 8)) 16 0) ∧ Own w0 wr [(g, 26, #[.int .u64 0, .int .u64 0])]) ∨ (i = .int .i64 2 ∧ v = .int .u8 (cond (decide (c0 = 8) || decide (c1 = 8)) 16 0) ∧ Own w0 wr [(g, 26, #[.int .u64 0, .int .u64 0])])) (fun _ i _ => 3 - (intOf i).toNat)
  case atStart => exact Or.inl ⟨rfl, rfl, H⟩
  case round =>
    clear H
    rcases hrel with ⟨rfl, rfl, H⟩ | ⟨rfl, rfl, H⟩ | ⟨rfl, rfl, H⟩
    · by_cases hc : c0 = 8
      · have e1 : ((c0 : Int) == 8) = true := int_eq_true c0 8 hc
        go_wp2_with (first
    | ((with_reducible show wpList _ _ _ (⟨_, .box _ _, _, _, _, _⟩ :: _) _ _); refine H.xb ?_; (intro g w H; simp only [Act.put, q1_, q2_, q3_]))
    | ((with_reducible show wpList _ _ _ (⟨_, .alloc _, _, _, _, _⟩ :: _) _ _); refine H.xa ?_; (intro g w H; simp only [Act.put, q1_, q2_, q3_]))
    | ((with_reducible show wpList _ _ _ (⟨_, .load _ _, _, _, _, _⟩ :: _) _ _); (first | refine H.xl ?_ | refine H.xm ?_); simp only [Act.put, q1_, q2_, q3_])
    | ((with_reducible show wpList _ _ _ (⟨_, .store _ _ _, _, _, _, _⟩ :: _) _ _); (first | refine H.xs ?_ | refine H.xt ?_); (intro w H; simp only [Act.put]))
    | ((with_reducible show wpList _ _ _ (⟨_, .load 51 _, _, _, _, _⟩ :: _) _ _); refine H.ldo rfl rP rfl rfl hB v8_ (by rfl) ?_; simp only [Act.put, q1_, q2_, q3_])
    | (go_at_call 19; ((with_reducible refine (cN _).mono ?_); rintro e w ⟨rfl, hb⟩; replace H := H.call hb; clear hb))
    )
        all_goals
          go_roundw
          case rel => exact Or.inr (Or.inl ⟨by go_num, (by with_reducible exact flag_on0 _ (by rw [decide_eq_true hc])), H.sub v5_⟩)
          case measure => simp [intOf]
      · have e1 : ((c0 : Int) == 8) = false := int_eq_false c0 8 hc
        go_wp2_with (first
    | ((with_reducible show wpList _ _ _ (⟨_, .box _ _, _, _, _, _⟩ :: _) _ _); refine H.xb ?_; (intro g w H; simp only [Act.put, q1_, q2_, q3_]))
    | ((with_reducible show wpList _ _ _ (⟨_, .alloc _, _, _, _, _⟩ :: _) _ _); refine H.xa ?_; (intro g w H; simp only [Act.put, q1_, q2_, q3_]))
    | ((with_reducible show wpList _ _ _ (⟨_, .load _ _, _, _, _, _⟩ :: _) _ _); (first | refine H.xl ?_ | refine H.xm ?_); simp only [Act.put, q1_, q2_, q3_])
    | ((with_reducible show wpList _ _ _ (⟨_, .store _ _ _, _, _, _, _⟩ :: _) _ _); (first | refine H.xs ?_ | refine H.xt ?_); (intro w H; simp only [Act.put]))
    | ((with_reducible show wpList _ _ _ (⟨_, .load 51 _, _, _, _, _⟩ :: _) _ _); refine H.ldo rfl rP rfl rfl hB v8_ (by rfl) ?_; simp only [Act.put, q1_, q2_, q3_])
    | (go_at_call 19; ((with_reducible refine (cN _).mono ?_); rintro e w ⟨rfl, hb⟩; replace H := H.call hb; clear hb))
    )
        all_goals
          go_roundw
          case rel => exact Or.inr (Or.inl ⟨by go_num, (by with_reducible exact flag_off0 _ (by rw [decide_eq_false hc])), H.sub v5_⟩)
          case measure => simp [intOf]
    · by_cases hc : c1 = 8
      · have e1 : ((c1 : Int) == 8) = true := int_eq_true c1 8 hc
        go_wp2_with (first
    | ((with_reducible show wpList _ _ _ (⟨_, .box _ _, _, _, _, _⟩ :: _) _ _); refine H.xb ?_; (intro g w H; simp only [Act.put, q1_, q2_, q3_]))
    | ((with_reducible show wpList _ _ _ (⟨_, .alloc _, _, _, _, _⟩ :: _) _ _); refine H.xa ?_; (intro g w H; simp only [Act.put, q1_, q2_, q3_]))
    | ((with_reducible show wpList _ _ _ (⟨_, .load _ _, _, _, _, _⟩ :: _) _ _); (first | refine H.xl ?_ | refine H.xm ?_); simp only [Act.put, q1_, q2_, q3_])
    | ((with_reducible show wpList _ _ _ (⟨_, .store _ _ _, _, _, _, _⟩ :: _) _ _); (first | refine H.xs ?_ | refine H.xt ?_); (intro w H; simp only [Act.put]))
    | ((with_reducible show wpList _ _ _ (⟨_, .load 51 _, _, _, _, _⟩ :: _) _ _); refine H.ldo rfl rP rfl rfl hB v8_ (by rfl) ?_; simp only [Act.put, q1_, q2_, q3_])
    | (go_at_call 19; ((with_reducible refine (cN _).mono ?_); rintro e w ⟨rfl, hb⟩; replace H := H.call hb; clear hb))
    )
        all_goals
          go_roundw
          case rel => exact Or.inr (Or.inr (⟨by go_num, (by with_reducible exact flag_on _ _ (by rw [decide_eq_true hc]; simp)), H.sub v5_⟩))
          case measure => simp [intOf]
      · have e1 : ((c1 : Int) == 8) = false := int_eq_false c1 8 hc
        go_wp2_with (first
    | ((with_reducible show wpList _ _ _ (⟨_, .box _ _, _, _, _, _⟩ :: _) _ _); refine H.xb ?_; (intro g w H; simp only [Act.put, q1_, q2_, q3_]))
    | ((with_reducible show wpList _ _ _ (⟨_, .alloc _, _, _, _, _⟩ :: _) _ _); refine H.xa ?_; (intro g w H; simp only [Act.put, q1_, q2_, q3_]))
    | ((with_reducible show wpList _ _ _ (⟨_, .load _ _, _, _, _, _⟩ :: _) _ _); (first | refine H.xl ?_ | refine H.xm ?_); simp only [Act.put, q1_, q2_, q3_])
    | ((with_reducible show wpList _ _ _ (⟨_, .store _ _ _, _, _, _, _⟩ :: _) _ _); (first | refine H.xs ?_ | refine H.xt ?_); (intro w H; simp only [Act.put]))
    | ((with_reducible show wpList _ _ _ (⟨_, .load 51 _, _, _, _, _⟩ :: _) _ _); refine H.ldo rfl rP rfl rfl hB v8_ (by rfl) ?_; simp only [Act.put, q1_, q2_, q3_])
    | (go_at_call 19; ((with_reducible refine (cN _).mono ?_); rintro e w ⟨rfl, hb⟩; replace H := H.call hb; clear hb))
    )
        all_goals
          go_roundw
          case rel => exact Or.inr (Or.inr (⟨by go_num, (by with_reducible exact flag_off _ _ (by rw [decide_eq_false hc]; simp)), H.sub v5_⟩))
          case measure => simp [intOf]
    · go_wp2_with (first
    | ((with_reducible show wpList _ _ _ (⟨_, .box _ _, _, _, _, _⟩ :: _) _ _); refine H.xb ?_; (intro g w H; simp only [Act.put, q1_, q2_, q3_]))
    | ((with_reducible show wpList _ _ _ (⟨_, .alloc _, _, _, _, _⟩ :: _) _ _); refine H.xa ?_; (intro g w H; simp only [Act.put, q1_, q2_, q3_]))
    | ((with_reducible show wpList _ _ _ (⟨_, .load _ _, _, _, _, _⟩ :: _) _ _); (first | refine H.xl ?_ | refine H.xm ?_); simp only [Act.put, q1_, q2_, q3_])
    | ((with_reducible show wpList _ _ _ (⟨_, .store _ _ _, _, _, _, _⟩ :: _) _ _); (first | refine H.xs ?_ | refine H.xt ?_); (intro w H; simp only [Act.put]))
    | ((with_reducible show wpList _ _ _ (⟨_, .load 51 _, _, _, _, _⟩ :: _) _ _); refine H.ldo rfl rP rfl rfl hB v8_ (by rfl) ?_; simp only [Act.put, q1_, q2_, q3_])
    | (go_at_call 19; ((with_reducible refine (cN _).mono ?_); rintro e w ⟨rfl, hb⟩; replace H := H.call hb; clear hb))
    )
      all_goals
        refine bodyPost_ret (results_ctt rfl rfl (H.res rB v4_ (by first | with_reducible exact ext_2 _ _) (by rfl))) rfl ⟨?_, H.below⟩
        rfl
open Go.RowKit
theorem mulMul_no (f m a b : Nat) (c1 s1 f1 : Nat) (x1 : Int) (c2 s2 f2 : Nat) (x2 : Int) (c3 s3 f3 : Nat) (x3 : Int) (w : World) (hT : Tab w) (cO : ∀ w g, Tab w → Blk 26 w g (cat2 (bc a) (bc b)) → Calls Tryd.prog 54 #[.int .u8 f, .int .u8 m, .slice (some ⟨g, 0, none⟩) 2 2] w fun e w' => e = .returned (.tuple #[.agg (tri c1 s1 x1 f1 c2 s2 x2 f2 c3 s3 x3 f3), .bool false]) ∧ Below w.heap.size w w') :
    Calls Tryd.prog 21 #[.int .u8 f, .int .u8 m, BV a, BV b] w fun e w' => e = .returned (.tuple #[BV 0, .int .u8 0, .int .i64 2]) ∧ Below w.heap.size w w' := by
  have H := Own.start w
  have HT := Lib.hid hT
  clear hT
  go_enter Tryd.func21, Tryd.ntmps21
  exact walk8
theorem mulMul_N1 (f m a b : Nat) (c1 s1 f1 : Nat) (x1 : Int) (c2 s2 f2 : Nat) (x2 : Int) (c3 s3 f3 : Nat) (x3 : Int) (b1 b2 : Bool) (w : World) (hT : Tab w) (cO : ∀ w g, Tab w → Blk 26 w g (cat2 (bc a) (bc b)) → Calls Tryd.prog 54 #[.int .u8 f, .int .u8 m, .slice (some ⟨g, 0, none⟩) 2 2] w fun e w' => e = .returned (.tuple #[.agg (tri c1 s1 x1 f1 c2 s2 x2 f2 c3 s3 x3 f3), .bool true]) ∧ Below w.heap.size w w') (cb1 : ∀ w, Calls Tryd.prog 55 #[PV c1 s1 x1 f1] w fun e w' => e = .returned (.bool b1) ∧ Below w.heap.size w w') (cb2 : ∀ w, Calls Tryd.prog 55 #[PV c2 s2 x2 f2] w fun e w' => e = .returned (.bool b2) ∧ Below w.heap.size w w') (cn1 : ∀ w, Calls Tryd.prog 56 #[PV c1 s1 x1 f1] w fun e w' => e = .returned (.bool true) ∧ Below w.heap.size w w') (cn : Nat) (fl : Int) (cC : ∀ w g, Blk 51 w g (cat2 (parts c1 s1 x1 f1) (parts c2 s2 x2 f2)) → Calls Tryd.prog 57 #[.int .u8 f, .slice (some ⟨g, 0, none⟩) 2 2] w fun e w' => e = .returned (.tuple #[BV cn, .int .u8 fl, .int .i64 0]) ∧ Below w.heap.size w w') :
    Calls Tryd.prog 21 #[.int .u8 f, .int .u8 m, BV a, BV b] w fun e w' => e = .returned (.tuple #[BV cn, .int .u8 fl, .int .i64 0]) ∧ Below w.heap.size w w' := by
  have H := Own.start w
  have HT := Lib.hid hT
  clear hT
  go_enter Tryd.func21, Tryd.ntmps21
  exact walk3
theorem mulMul_N2 (f m a b : Nat) (c1 s1 f1 : Nat) (x1 : Int) (c2 s2 f2 : Nat) (x2 : Int) (c3 s3 f3 : Nat) (x3 : Int) (b1 b2 : Bool) (w : World) (hT : Tab w) (cO : ∀ w g, Tab w → Blk 26 w g (cat2 (bc a) (bc b)) → Calls Tryd.prog 54 #[.int .u8 f, .int .u8 m, .slice (some ⟨g, 0, none⟩) 2 2] w fun e w' => e = .returned (.tuple #[.agg (tri c1 s1 x1 f1 c2 s2 x2 f2 c3 s3 x3 f3), .bool true]) ∧ Below w.heap.size w w') (cb1 : ∀ w, Calls Tryd.prog 55 #[PV c1 s1 x1 f1] w fun e w' => e = .returned (.bool b1) ∧ Below w.heap.size w w') (cb2 : ∀ w, Calls Tryd.prog 55 #[PV c2 s2 x2 f2] w fun e w' => e = .returned (.bool b2) ∧ Below w.heap.size w w') (cn1 : ∀ w, Calls Tryd.prog 56 #[PV c1 s1 x1 f1] w fun e w' => e = .returned (.bool false) ∧ Below w.heap.size w w') (cn2 : ∀ w, Calls Tryd.prog 56 #[PV c2 s2 x2 f2] w fun e w' => e = .returned (.bool true) ∧ Below w.heap.size w w') (cn : Nat) (fl : Int) (cC : ∀ w g, Blk 51 w g (cat2 (parts c1 s1 x1 f1) (parts c2 s2 x2 f2)) → Calls Tryd.prog 57 #[.int .u8 f, .slice (some ⟨g, 0, none⟩) 2 2] w fun e w' => e = .returned (.tuple #[BV cn, .int .u8 fl, .int .i64 0]) ∧ Below w.heap.size w w') :
    Calls Tryd.prog 21 #[.int .u8 f, .int .u8 m, BV a, BV b] w fun e w' => e = .returned (.tuple #[BV cn, .int .u8 fl, .int .i64 0]) ∧ Below w.heap.size w w' := by
  have H := Own.start w
  have HT := Lib.hid hT
  clear hT
  go_enter Tryd.func21, Tryd.ntmps21
  exact walk3
end Go.Proofs.YtbngedcblngnhaaDoor
