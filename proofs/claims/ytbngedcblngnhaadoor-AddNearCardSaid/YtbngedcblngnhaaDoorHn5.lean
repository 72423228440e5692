/- Part 5 of what is proved: Opa, Grj, Pcx, Pco, Pe, Pkj, Pd, Ps, Lm, Pa, Pn, Kfs, Kfj, Wsub. -/
import Derived.Deep.RegionWith
import Derived.Deep.RegionHeld3
import Derived.Deep.QuietTactic
import Derived.BigQuiet
import Derived.StillTailTactics
import Derived.Outline
import Derived.Test.YtbngedcblngnhaaDoorHn0
import Derived.Test.YtbngedcblngnhaaDoorHn1
import Derived.Test.YtbngedcblngnhaaDoorHn2
import Derived.Test.YtbngedcblngnhaaDoorHn3
import Derived.Test.YtbngedcblngnhaaDoorHn4
set_option linter.unusedSimpArgs false
set_option linter.unusedVariables false
set_option linter.unnecessarySimpa false
set_option maxRecDepth 100000
set_option maxHeartbeats 1600000
namespace Go.Proofs.YtbngedcblngnhaaDoor
open Go.RowKit
theorem add_open2_mode (f m a b : Nat) (w0 : World) (g0 : Nat) (hB : Blk 26 w0 g0 (cat2 (bc a) (bc b))) (cM : ∀ w, Calls Tryd.prog 9 #[.int .u8 m] w fun e w' => e = .returned (.int .i64 2) ∧ w = w') :
    Calls Tryd.prog 28 #[.int .u8 f, .int .u8 m, .slice (some ⟨g0, 0, none⟩) 2 2] w0 fun e w' => e = .returned (.tuple #[.agg (tri 0 0 0 0 0 0 0 0 0 0 0 0), .bool false]) ∧ Below w0.heap.size w0 w' := by
  have H := Own.start w0
  go_enter Tryd.func28, Tryd.ntmps28
  exact walk5
theorem add_open2_form (f m a b : Nat) (w0 : World) (g0 : Nat) (hB : Blk 26 w0 g0 (cat2 (bc a) (bc b))) (cM : ∀ w, Calls Tryd.prog 9 #[.int .u8 m] w fun e w' => e = .returned (.int .i64 0) ∧ w = w') (cF : ∀ w, Calls Tryd.prog 16 #[.int .u8 f] w fun e w' => e = .returned (.int .i64 2) ∧ w = w') :
    Calls Tryd.prog 28 #[.int .u8 f, .int .u8 m, .slice (some ⟨g0, 0, none⟩) 2 2] w0 fun e w' => e = .returned (.tuple #[.agg (tri 0 0 0 0 0 0 0 0 0 0 0 0), .bool false]) ∧ Below w0.heap.size w0 w' := by
  have H := Own.start w0
  go_enter Tryd.func28, Tryd.ntmps28
  exact walk5
theorem add_open2_no0 (f m a b : Nat) (w0 : World) (hT : Tab w0) (g0 : Nat) (hB : Blk 26 w0 g0 (cat2 (bc a) (bc b))) (cM : ∀ w, Calls Tryd.prog 9 #[.int .u8 m] w fun e w' => e = .returned (.int .i64 0) ∧ w = w') (cF : ∀ w, Calls Tryd.prog 16 #[.int .u8 f] w fun e w' => e = .returned (.int .i64 0) ∧ w = w') (cUa : ∀ w, Tab w → Calls Tryd.prog 66 #[.int .u8 f, BV a] w fun e w' => e = .returned (.tuple #[.agg PZ, .int .i64 2]) ∧ Below w.heap.size w w') :
    Calls Tryd.prog 28 #[.int .u8 f, .int .u8 m, .slice (some ⟨g0, 0, none⟩) 2 2] w0 fun e w' => e = .returned (.tuple #[.agg (tri 0 0 0 0 0 0 0 0 0 0 0 0), .bool false]) ∧ Below w0.heap.size w0 w' := by
  have H := Own.start w0
  have HT := Lib.hid hT
  clear hT
  go_enter Tryd.func28, Tryd.ntmps28
  go_wp2_with (first
    | ((with_reducible show wpList _ _ _ (⟨_, .box _ _, _, _, _, _⟩ :: _) _ _); refine H.xb ?_; (intro g w H; simp only [Act.put, q1_, q2_, q3_]))
    | ((with_reducible show wpList _ _ _ (⟨_, .alloc _, _, _, _, _⟩ :: _) _ _); refine H.xa ?_; (intro g w H; simp only [Act.put, q1_, q2_, q3_]))
    | ((with_reducible show wpList _ _ _ (⟨_, .load _ _, _, _, _, _⟩ :: _) _ _); (first | refine H.xl ?_ | refine H.xm ?_); simp only [Act.put, q1_, q2_, q3_])
    | ((with_reducible show wpList _ _ _ (⟨_, .store _ _ _, _, _, _, _⟩ :: _) _ _); (first | refine H.xs ?_ | refine H.xt ?_); (intro w H; simp only [Act.put]))
    | ((with_reducible show wpList _ _ _ (⟨_, .load 26 _, _, _, _, _⟩ :: _) _ _); refine H.ldo rfl rB rfl rfl hB v5_ (by rfl) ?_; simp only [Act.put, q1_, q2_, q3_])
    | (go_at_call 9; ((with_reducible refine (cM _).mono ?_); rintro e w' ⟨rfl, rfl⟩))
    | (go_at_call 16; ((with_reducible refine (cF _).mono ?_); rintro e w' ⟨rfl, rfl⟩))
    | (go_at_call 66; ((with_reducible refine (cUa _ (HT.out.below H.below)).mono ?_); rintro e w ⟨rfl, hb⟩; replace H := H.call hb; clear hb))
    )
  go_loopw [23] (fun i wr => (i = .int .i64 0 ∧ Own w0 wr [(g, 52, (tri 0 0 0 0 0 0 0 0 0 0 0 0))])) (fun i _ => 3 - (intOf i).toNat)
  case atStart => exact ⟨rfl, H⟩
  case round =>
    clear H
    obtain ⟨rfl, H⟩ := hrel
    · go_wp2_with (first
    | ((with_reducible show wpList _ _ _ (⟨_, .box _ _, _, _, _, _⟩ :: _) _ _); refine H.xb ?_; (intro g w H; simp only [Act.put, q1_, q2_, q3_]))
    | ((with_reducible show wpList _ _ _ (⟨_, .alloc _, _, _, _, _⟩ :: _) _ _); refine H.xa ?_; (intro g w H; simp only [Act.put, q1_, q2_, q3_]))
    | ((with_reducible show wpList _ _ _ (⟨_, .load _ _, _, _, _, _⟩ :: _) _ _); (first | refine H.xl ?_ | refine H.xm ?_); simp only [Act.put, q1_, q2_, q3_])
    | ((with_reducible show wpList _ _ _ (⟨_, .store _ _ _, _, _, _, _⟩ :: _) _ _); (first | refine H.xs ?_ | refine H.xt ?_); (intro w H; simp only [Act.put]))
    | ((with_reducible show wpList _ _ _ (⟨_, .load 26 _, _, _, _, _⟩ :: _) _ _); refine H.ldo rfl rB rfl rfl hB v5_ (by rfl) ?_; simp only [Act.put, q1_, q2_, q3_])
    | (go_at_call 9; ((with_reducible refine (cM _).mono ?_); rintro e w' ⟨rfl, rfl⟩))
    | (go_at_call 16; ((with_reducible refine (cF _).mono ?_); rintro e w' ⟨rfl, rfl⟩))
    | (go_at_call 66; ((with_reducible refine (cUa _ (HT.out.below H.below)).mono ?_); rintro e w ⟨rfl, hb⟩; replace H := H.call hb; clear hb))
    )
      all_goals
        refine bodyPost_ret (results_ct rfl rfl (H.res rQ v3_ (ext_tri _ _ _ _ _ _ _ _ _ _ _ _) (by rfl))) rfl ⟨?_, H.below⟩
        rfl
theorem add_open2_no1 (f m a b : Nat) (w0 : World) (hT : Tab w0) (g0 : Nat) (hB : Blk 26 w0 g0 (cat2 (bc a) (bc b))) (cM : ∀ w, Calls Tryd.prog 9 #[.int .u8 m] w fun e w' => e = .returned (.int .i64 0) ∧ w = w') (cF : ∀ w, Calls Tryd.prog 16 #[.int .u8 f] w fun e w' => e = .returned (.int .i64 0) ∧ w = w') (cUa : ∀ w, Tab w → Calls Tryd.prog 66 #[.int .u8 f, BV a] w fun e w' => e = .returned (.tuple #[.agg (PT f a), .int .i64 0]) ∧ Below w.heap.size w w') (cUb : ∀ w, Tab w → Calls Tryd.prog 66 #[.int .u8 f, BV b] w fun e w' => e = .returned (.tuple #[.agg PZ, .int .i64 2]) ∧ Below w.heap.size w w') :
    Calls Tryd.prog 28 #[.int .u8 f, .int .u8 m, .slice (some ⟨g0, 0, none⟩) 2 2] w0 fun e w' => e = .returned (.tuple #[.agg (tri (clsN f a) (sigN f a) (xpN f a) (frN f a) 0 0 0 0 0 0 0 0), .bool false]) ∧ Below w0.heap.size w0 w' := by
  have H := Own.start w0
  have HT := Lib.hid hT
  clear hT
  go_enter Tryd.func28, Tryd.ntmps28
  go_wp2_with (first
    | ((with_reducible show wpList _ _ _ (⟨_, .box _ _, _, _, _, _⟩ :: _) _ _); refine H.xb ?_; (intro g w H; simp only [Act.put, q1_, q2_, q3_]))
    | ((with_reducible show wpList _ _ _ (⟨_, .alloc _, _, _, _, _⟩ :: _) _ _); refine H.xa ?_; (intro g w H; simp only [Act.put, q1_, q2_, q3_]))
    | ((with_reducible show wpList _ _ _ (⟨_, .load _ _, _, _, _, _⟩ :: _) _ _); (first | refine H.xl ?_ | refine H.xm ?_); simp only [Act.put, q1_, q2_, q3_])
    | ((with_reducible show wpList _ _ _ (⟨_, .store _ _ _, _, _, _, _⟩ :: _) _ _); (first | refine H.xs ?_ | refine H.xt ?_); (intro w H; simp only [Act.put]))
    | ((with_reducible show wpList _ _ _ (⟨_, .load 26 _, _, _, _, _⟩ :: _) _ _); refine H.ldo rfl rB rfl rfl hB v5_ (by rfl) ?_; simp only [Act.put, q1_, q2_, q3_])
    | (go_at_call 9; ((with_reducible refine (cM _).mono ?_); rintro e w' ⟨rfl, rfl⟩))
    | (go_at_call 16; ((with_reducible refine (cF _).mono ?_); rintro e w' ⟨rfl, rfl⟩))
    | (go_at_call 66; ((with_reducible refine (cUa _ (HT.out.below H.below)).mono ?_); rintro e w ⟨rfl, hb⟩; replace H := H.call hb; clear hb))
    | (go_at_call 66; ((with_reducible refine (cUb _ (HT.out.below H.below)).mono ?_); rintro e w ⟨rfl, hb⟩; replace H := H.call hb; clear hb))
    )
  go_loopw [23] (fun i wr => (i = .int .i64 0 ∧ Own w0 wr [(g, 52, (tri 0 0 0 0 0 0 0 0 0 0 0 0))]) ∨ (i = .int .i64 1 ∧ Own w0 wr [(g, 52, (tri (clsN f a) (sigN f a) (xpN f a) (frN f a) 0 0 0 0 0 0 0 0))])) (fun i _ => 3 - (intOf i).toNat)
  case atStart => exact Or.inl ⟨rfl, H⟩
  case round =>
    clear H
    rcases hrel with ⟨rfl, H⟩ | ⟨rfl, H⟩
    · go_wp2_with (first
    | ((with_reducible show wpList _ _ _ (⟨_, .box _ _, _, _, _, _⟩ :: _) _ _); refine H.xb ?_; (intro g w H; simp only [Act.put, q1_, q2_, q3_]))
    | ((with_reducible show wpList _ _ _ (⟨_, .alloc _, _, _, _, _⟩ :: _) _ _); refine H.xa ?_; (intro g w H; simp only [Act.put, q1_, q2_, q3_]))
    | ((with_reducible show wpList _ _ _ (⟨_, .load _ _, _, _, _, _⟩ :: _) _ _); (first | refine H.xl ?_ | refine H.xm ?_); simp only [Act.put, q1_, q2_, q3_])
    | ((with_reducible show wpList _ _ _ (⟨_, .store _ _ _, _, _, _, _⟩ :: _) _ _); (first | refine H.xs ?_ | refine H.xt ?_); (intro w H; simp only [Act.put]))
    | ((with_reducible show wpList _ _ _ (⟨_, .load 26 _, _, _, _, _⟩ :: _) _ _); refine H.ldo rfl rB rfl rfl hB v5_ (by rfl) ?_; simp only [Act.put, q1_, q2_, q3_])
    | (go_at_call 9; ((with_reducible refine (cM _).mono ?_); rintro e w' ⟨rfl, rfl⟩))
    | (go_at_call 16; ((with_reducible refine (cF _).mono ?_); rintro e w' ⟨rfl, rfl⟩))
    | (go_at_call 66; ((with_reducible refine (cUa _ (HT.out.below H.below)).mono ?_); rintro e w ⟨rfl, hb⟩; replace H := H.call hb; clear hb))
    | (go_at_call 66; ((with_reducible refine (cUb _ (HT.out.below H.below)).mono ?_); rintro e w ⟨rfl, hb⟩; replace H := H.call hb; clear hb))
    )
      all_goals
        go_roundw
        case rel => exact Or.inr (⟨by go_num, H.sub v6_⟩)
        case measure => simp [intOf]
    · go_wp2_with (first
    | ((with_reducible show wpList _ _ _ (⟨_, .box _ _, _, _, _, _⟩ :: _) _ _); refine H.xb ?_; (intro g w H; simp only [Act.put, q1_, q2_, q3_]))
    | ((with_reducible show wpList _ _ _ (⟨_, .alloc _, _, _, _, _⟩ :: _) _ _); refine H.xa ?_; (intro g w H; simp only [Act.put, q1_, q2_, q3_]))
    | ((with_reducible show wpList _ _ _ (⟨_, .load _ _, _, _, _, _⟩ :: _) _ _); (first | refine H.xl ?_ | refine H.xm ?_); simp only [Act.put, q1_, q2_, q3_])
    | ((with_reducible show wpList _ _ _ (⟨_, .store _ _ _, _, _, _, _⟩ :: _) _ _); (first | refine H.xs ?_ | refine H.xt ?_); (intro w H; simp only [Act.put]))
    | ((with_reducible show wpList _ _ _ (⟨_, .load 26 _, _, _, _, _⟩ :: _) _ _); refine H.ldo rfl rB rfl rfl hB v5_ (by rfl) ?_; simp only [Act.put, q1_, q2_, q3_])
    | (go_at_call 9; ((with_reducible refine (cM _).mono ?_); rintro e w' ⟨rfl, rfl⟩))
    | (go_at_call 16; ((with_reducible refine (cF _).mono ?_); rintro e w' ⟨rfl, rfl⟩))
    | (go_at_call 66; ((with_reducible refine (cUa _ (HT.out.below H.below)).mono ?_); rintro e w ⟨rfl, hb⟩; replace H := H.call hb; clear hb))
    | (go_at_call 66; ((with_reducible refine (cUb _ (HT.out.below H.below)).mono ?_); rintro e w ⟨rfl, hb⟩; replace H := H.call hb; clear hb))
    )
      all_goals
        refine bodyPost_ret (results_ct rfl rfl (H.res rQ v3_ (ext_tri _ _ _ _ _ _ _ _ _ _ _ _) (by rfl))) rfl ⟨?_, H.below⟩
        rfl
theorem add_open2_ok (f m a b : Nat) (w0 : World) (hT : Tab w0) (g0 : Nat) (hB : Blk 26 w0 g0 (cat2 (bc a) (bc b))) (cM : ∀ w, Calls Tryd.prog 9 #[.int .u8 m] w fun e w' => e = .returned (.int .i64 0) ∧ w = w') (cF : ∀ w, Calls Tryd.prog 16 #[.int .u8 f] w fun e w' => e = .returned (.int .i64 0) ∧ w = w') (cUa : ∀ w, Tab w → Calls Tryd.prog 66 #[.int .u8 f, BV a] w fun e w' => e = .returned (.tuple #[.agg (PT f a), .int .i64 0]) ∧ Below w.heap.size w w') (cUb : ∀ w, Tab w → Calls Tryd.prog 66 #[.int .u8 f, BV b] w fun e w' => e = .returned (.tuple #[.agg (PT f b), .int .i64 0]) ∧ Below w.heap.size w w') :
    Calls Tryd.prog 28 #[.int .u8 f, .int .u8 m, .slice (some ⟨g0, 0, none⟩) 2 2] w0 fun e w' => e = .returned (.tuple #[.agg (tri (clsN f a) (sigN f a) (xpN f a) (frN f a) (clsN f b) (sigN f b) (xpN f b) (frN f b) 0 0 0 0), .bool true]) ∧ Below w0.heap.size w0 w' := by
  have H := Own.start w0
  have HT := Lib.hid hT
  clear hT
  go_enter Tryd.func28, Tryd.ntmps28
  go_wp2_with (first
    | ((with_reducible show wpList _ _ _ (⟨_, .box _ _, _, _, _, _⟩ :: _) _ _); refine H.xb ?_; (intro g w H; simp only [Act.put, q1_, q2_, q3_]))
    | ((with_reducible show wpList _ _ _ (⟨_, .alloc _, _, _, _, _⟩ :: _) _ _); refine H.xa ?_; (intro g w H; simp only [Act.put, q1_, q2_, q3_]))
    | ((with_reducible show wpList _ _ _ (⟨_, .load _ _, _, _, _, _⟩ :: _) _ _); (first | refine H.xl ?_ | refine H.xm ?_); simp only [Act.put, q1_, q2_, q3_])
    | ((with_reducible show wpList _ _ _ (⟨_, .store _ _ _, _, _, _, _⟩ :: _) _ _); (first | refine H.xs ?_ | refine H.xt ?_); (intro w H; simp only [Act.put]))
    | ((with_reducible show wpList _ _ _ (⟨_, .load 26 _, _, _, _, _⟩ :: _) _ _); refine H.ldo rfl rB rfl rfl hB v5_ (by rfl) ?_; simp only [Act.put, q1_, q2_, q3_])
    | (go_at_call 9; ((with_reducible refine (cM _).mono ?_); rintro e w' ⟨rfl, rfl⟩))
    | (go_at_call 16; ((with_reducible refine (cF _).mono ?_); rintro e w' ⟨rfl, rfl⟩))
    | (go_at_call 66; ((with_reducible refine (cUa _ (HT.out.below H.below)).mono ?_); rintro e w ⟨rfl, hb⟩; replace H := H.call hb; clear hb))
    | (go_at_call 66; ((with_reducible refine (cUb _ (HT.out.below H.below)).mono ?_); rintro e w ⟨rfl, hb⟩; replace H := H.call hb; clear hb))
    )
  go_loopw [23] (fun i wr => (i = .int .i64 0 ∧ Own w0 wr [(g, 52, (tri 0 0 0 0 0 0 0 0 0 0 0 0))]) ∨ (i = .int .i64 1 ∧ Own w0 wr [(g, 52, (tri (clsN f a) (sigN f a) (xpN f a) (frN f a) 0 0 0 0 0 0 0 0))]) ∨ (i = .int .i64 2 ∧ Own w0 wr [(g, 52, (tri (clsN f a) (sigN f a) (xpN f a) (frN f a) (clsN f b) (sigN f b) (xpN f b) (frN f b) 0 0 0 0))])) (fun i _ => 3 - (intOf i).toNat)
  case atStart => exact Or.inl ⟨rfl, H⟩
  case round =>
    clear H
    rcases hrel with ⟨rfl, H⟩ | ⟨rfl, H⟩ | ⟨rfl, H⟩
    · go_wp2_with (first
    | ((with_reducible show wpList _ _ _ (⟨_, .box _ _, _, _, _, _⟩ :: _) _ _); refine H.xb ?_; (intro g w H; simp only [Act.put, q1_, q2_, q3_]))
    | ((with_reducible show wpList _ _ _ (⟨_, .alloc _, _, _, _, _⟩ :: _) _ _); refine H.xa ?_; (intro g w H; simp only [Act.put, q1_, q2_, q3_]))
    | ((with_reducible show wpList _ _ _ (⟨_, .load _ _, _, _, _, _⟩ :: _) _ _); (first | refine H.xl ?_ | refine H.xm ?_); simp only [Act.put, q1_, q2_, q3_])
    | ((with_reducible show wpList _ _ _ (⟨_, .store _ _ _, _, _, _, _⟩ :: _) _ _); (first | refine H.xs ?_ | refine H.xt ?_); (intro w H; simp only [Act.put]))
    | ((with_reducible show wpList _ _ _ (⟨_, .load 26 _, _, _, _, _⟩ :: _) _ _); refine H.ldo rfl rB rfl rfl hB v5_ (by rfl) ?_; simp only [Act.put, q1_, q2_, q3_])
    | (go_at_call 9; ((with_reducible refine (cM _).mono ?_); rintro e w' ⟨rfl, rfl⟩))
    | (go_at_call 16; ((with_reducible refine (cF _).mono ?_); rintro e w' ⟨rfl, rfl⟩))
    | (go_at_call 66; ((with_reducible refine (cUa _ (HT.out.below H.below)).mono ?_); rintro e w ⟨rfl, hb⟩; replace H := H.call hb; clear hb))
    | (go_at_call 66; ((with_reducible refine (cUb _ (HT.out.below H.below)).mono ?_); rintro e w ⟨rfl, hb⟩; replace H := H.call hb; clear hb))
    )
      all_goals
        go_roundw
        case rel => exact Or.inr (Or.inl ⟨by go_num, H.sub v6_⟩)
        case measure => simp [intOf]
    · go_wp2_with (first
    | ((with_reducible show wpList _ _ _ (⟨_, .box _ _, _, _, _, _⟩ :: _) _ _); refine H.xb ?_; (intro g w H; simp only [Act.put, q1_, q2_, q3_]))
    | ((with_reducible show wpList _ _ _ (⟨_, .alloc _, _, _, _, _⟩ :: _) _ _); refine H.xa ?_; (intro g w H; simp only [Act.put, q1_, q2_, q3_]))
    | ((with_reducible show wpList _ _ _ (⟨_, .load _ _, _, _, _, _⟩ :: _) _ _); (first | refine H.xl ?_ | refine H.xm ?_); simp only [Act.put, q1_, q2_, q3_])
    | ((with_reducible show wpList _ _ _ (⟨_, .store _ _ _, _, _, _, _⟩ :: _) _ _); (first | refine H.xs ?_ | refine H.xt ?_); (intro w H; simp only [Act.put]))
    | ((with_reducible show wpList _ _ _ (⟨_, .load 26 _, _, _, _, _⟩ :: _) _ _); refine H.ldo rfl rB rfl rfl hB v5_ (by rfl) ?_; simp only [Act.put, q1_, q2_, q3_])
    | (go_at_call 9; ((with_reducible refine (cM _).mono ?_); rintro e w' ⟨rfl, rfl⟩))
    | (go_at_call 16; ((with_reducible refine (cF _).mono ?_); rintro e w' ⟨rfl, rfl⟩))
    | (go_at_call 66; ((with_reducible refine (cUa _ (HT.out.below H.below)).mono ?_); rintro e w ⟨rfl, hb⟩; replace H := H.call hb; clear hb))
    | (go_at_call 66; ((with_reducible refine (cUb _ (HT.out.below H.below)).mono ?_); rintro e w ⟨rfl, hb⟩; replace H := H.call hb; clear hb))
    )
      all_goals
        go_roundw
        case rel => exact Or.inr (Or.inr (⟨by go_num, H.sub v6_⟩))
        case measure => simp [intOf]
    · go_wp2_with (first
    | ((with_reducible show wpList _ _ _ (⟨_, .box _ _, _, _, _, _⟩ :: _) _ _); refine H.xb ?_; (intro g w H; simp only [Act.put, q1_, q2_, q3_]))
    | ((with_reducible show wpList _ _ _ (⟨_, .alloc _, _, _, _, _⟩ :: _) _ _); refine H.xa ?_; (intro g w H; simp only [Act.put, q1_, q2_, q3_]))
    | ((with_reducible show wpList _ _ _ (⟨_, .load _ _, _, _, _, _⟩ :: _) _ _); (first | refine H.xl ?_ | refine H.xm ?_); simp only [Act.put, q1_, q2_, q3_])
    | ((with_reducible show wpList _ _ _ (⟨_, .store _ _ _, _, _, _, _⟩ :: _) _ _); (first | refine H.xs ?_ | refine H.xt ?_); (intro w H; simp only [Act.put]))
    | ((with_reducible show wpList _ _ _ (⟨_, .load 26 _, _, _, _, _⟩ :: _) _ _); refine H.ldo rfl rB rfl rfl hB v5_ (by rfl) ?_; simp only [Act.put, q1_, q2_, q3_])
    | (go_at_call 9; ((with_reducible refine (cM _).mono ?_); rintro e w' ⟨rfl, rfl⟩))
    | (go_at_call 16; ((with_reducible refine (cF _).mono ?_); rintro e w' ⟨rfl, rfl⟩))
    | (go_at_call 66; ((with_reducible refine (cUa _ (HT.out.below H.below)).mono ?_); rintro e w ⟨rfl, hb⟩; replace H := H.call hb; clear hb))
    | (go_at_call 66; ((with_reducible refine (cUb _ (HT.out.below H.below)).mono ?_); rintro e w ⟨rfl, hb⟩; replace H := H.call hb; clear hb))
    )
      all_goals
        refine bodyPost_ret (results_ct rfl rfl (H.res rQ v3_ (ext_tri _ _ _ _ _ _ _ _ _ _ _ _) (by rfl))) rfl ⟨?_, H.below⟩
        rfl
theorem add_canon (f : Nat) (c0 s0 f0 : Nat) (x0 : Int) (c1 s1 f1 : Nat) (x1 : Int) (w0 : World) (g0 : Nat) (hB : Blk 51 w0 g0 (cat2 (parts c0 s0 x0 f0) (parts c1 s1 x1 f1))) (cN : ∀ w, Calls Tryd.prog 19 #[.int .u8 f] w fun e w' => e = .returned (BV (nanN f)) ∧ Below w.heap.size w w') :
    Calls Tryd.prog 30 #[.int .u8 f, .slice (some ⟨g0, 0, none⟩) 2 2] w0 fun e w' => e = .returned (.tuple #[BV (nanN f), .int .u8 (cond (decide (c0 = 8) || decide (c1 = 8)) 16 0), .int .i64 0]) ∧ Below w0.heap.size w0 w' := by
  have H := Own.start w0
  go_enter Tryd.func30, Tryd.ntmps30
  go_wp2_with (first
    | ((with_reducible show wpList _ _ _ (⟨_, .box _ _, _, _, _, _⟩ :: _) _ _); refine H.xb ?_; (intro g w H; simp only [Act.put, q1_, q2_, q3_]))
    | ((with_reducible show wpList _ _ _ (⟨_, .alloc _, _, _, _, _⟩ :: _) _ _); refine H.xa ?_; (intro g w H; simp only [Act.put, q1_, q2_, q3_]))
    | ((with_reducible show wpList _ _ _ (⟨_, .load _ _, _, _, _, _⟩ :: _) _ _); (first | refine H.xl ?_ | refine H.xm ?_); simp only [Act.put, q1_, q2_, q3_])
    | ((with_reducible show wpList _ _ _ (⟨_, .store _ _ _, _, _, _, _⟩ :: _) _ _); (first | refine H.xs ?_ | refine H.xt ?_); (intro w H; simp only [Act.put]))
    | ((with_reducible show wpList _ _ _ (⟨_, .load 51 _, _, _, _, _⟩ :: _) _ _); refine H.ldo rfl rP rfl rfl hB v7_ (by rfl) ?_; simp only [Act.put, q1_, q2_, q3_])
    | (go_at_call 19; ((with_reducible refine (cN _).mono ?_); rintro e w ⟨rfl, hb⟩; replace H := H.call hb; clear hb))
    )
  go_loopw [7, 12] (fun v i wr => (i = .int .i64 0 ∧ v = .int .u8 0 ∧ Own w0 wr [(g, 26, #[.int .u64 0, .int .u64 0])]) ∨ (i = .int .i64 1 ∧ v = .int .u8 (cond (decide (c0 = 8)) 16 0) ∧ Own w0 wr [(g, 26, #[.int .u64 0, .int .u64 0])]) ∨ (i = .int .i64 2 ∧ v = .int .u8 (cond (decide (c0 = 8) || decide (c1 = 8)) 16 0) ∧ Own w0 wr [(g, 26, #[.int .u64 0, .int .u64 0])])) (fun _ i _ => 3 - (intOf i).toNat)
  case atStart => exact Or.inl ⟨rfl, rfl, H⟩
  case round =>
    clear H
    rcases hrel with ⟨rfl, rfl, H⟩ | ⟨rfl, rfl, H⟩ | ⟨rfl, rfl, H⟩
    · by_cases hc : c0 = 8
      · have e1 : ((c0 : Int) == 8) = true := int_eq_true c0 8 hc
        go_wp2_with (first
    | ((with_reducible show wpList _ _ _ (⟨_, .box _ _, _, _, _, _⟩ :: _) _ _); refine H.xb ?_; (intro g w H; simp only [Act.put, q1_, q2_, q3_]))
    | ((with_reducible show wpList _ _ _ (⟨_, .alloc _, _, _, _, _⟩ :: _) _ _); refine H.xa ?_; (intro g w H; simp only [Act.put, q1_, q2_, q3_]))
    | ((with_reducible show wpList _ _ _ (⟨_, .load _ _, _, _, _, _⟩ :: _) _ _); (first | refine H.xl ?_ | refine H.xm ?_); simp only [Act.put, q1_, q2_, q3_])
    | ((with_reducible show wpList _ _ _ (⟨_, .store _ _ _, _, _, _, _⟩ :: _) _ _); (first | refine H.xs ?_ | refine H.xt ?_); (intro w H; simp only [Act.put]))
    | ((with_reducible show wpList _ _ _ (⟨_, .load 51 _, _, _, _, _⟩ :: _) _ _); refine H.ldo rfl rP rfl rfl hB v7_ (by rfl) ?_; simp only [Act.put, q1_, q2_, q3_])
    | (go_at_call 19; ((with_reducible refine (cN _).mono ?_); rintro e w ⟨rfl, hb⟩; replace H := H.call hb; clear hb))
    )
        all_goals
          go_roundw
          case rel => exact Or.inr (Or.inl ⟨by go_num, (by with_reducible exact flag_on0 _ (by rw [decide_eq_true hc])), H.sub v6_⟩)
          case measure => simp [intOf]
      · have e1 : ((c0 : Int) == 8) = false := int_eq_false c0 8 hc
        go_wp2_with (first
    | ((with_reducible show wpList _ _ _ (⟨_, .box _ _, _, _, _, _⟩ :: _) _ _); refine H.xb ?_; (intro g w H; simp only [Act.put, q1_, q2_, q3_]))
    | ((with_reducible show wpList _ _ _ (⟨_, .alloc _, _, _, _, _⟩ :: _) _ _); refine H.xa ?_; (intro g w H; simp only [Act.put, q1_, q2_, q3_]))
    | ((with_reducible show wpList _ _ _ (⟨_, .load _ _, _, _, _, _⟩ :: _) _ _); (first | refine H.xl ?_ | refine H.xm ?_); simp only [Act.put, q1_, q2_, q3_])
    | ((with_reducible show wpList _ _ _ (⟨_, .store _ _ _, _, _, _, _⟩ :: _) _ _); (first | refine H.xs ?_ | refine H.xt ?_); (intro w H; simp only [Act.put]))
    | ((with_reducible show wpList _ _ _ (⟨_, .load 51 _, _, _, _, _⟩ :: _) _ _); refine H.ldo rfl rP rfl rfl hB v7_ (by rfl) ?_; simp only [Act.put, q1_, q2_, q3_])
    | (go_at_call 19; ((with_reducible refine (cN _).mono ?_); rintro e w ⟨rfl, hb⟩; replace H := H.call hb; clear hb))
    )
        all_goals
          go_roundw
          case rel => exact Or.inr (Or.inl ⟨by go_num, (by with_reducible exact flag_off0 _ (by rw [decide_eq_false hc])), H.sub v6_⟩)
          case measure => simp [intOf]
    · by_cases hc : c1 = 8
      · have e1 : ((c1 : Int) == 8) = true := int_eq_true c1 8 hc
        go_wp2_with (first
    | ((with_reducible show wpList _ _ _ (⟨_, .box _ _, _, _, _, _⟩ :: _) _ _); refine H.xb ?_; (intro g w H; simp only [Act.put, q1_, q2_, q3_]))
    | ((with_reducible show wpList _ _ _ (⟨_, .alloc _, _, _, _, _⟩ :: _) _ _); refine H.xa ?_; (intro g w H; simp only [Act.put, q1_, q2_, q3_]))
    | ((with_reducible show wpList _ _ _ (⟨_, .load _ _, _, _, _, _⟩ :: _) _ _); (first | refine H.xl ?_ | refine H.xm ?_); simp only [Act.put, q1_, q2_, q3_])
    | ((with_reducible show wpList _ _ _ (⟨_, .store _ _ _, _, _, _, _⟩ :: _) _ _); (first | refine H.xs ?_ | refine H.xt ?_); (intro w H; simp only [Act.put]))
    | ((with_reducible show wpList _ _ _ (⟨_, .load 51 _, _, _, _, _⟩ :: _) _ _); refine H.ldo rfl rP rfl rfl hB v7_ (by rfl) ?_; simp only [Act.put, q1_, q2_, q3_])
    | (go_at_call 19; ((with_reducible refine (cN _).mono ?_); rintro e w ⟨rfl, hb⟩; replace H := H.call hb; clear hb))
    )
        all_goals
          go_roundw
          case rel => exact Or.inr (Or.inr (⟨by go_num, (by with_reducible exact flag_on _ _ (by rw [decide_eq_true hc]; simp)), H.sub v6_⟩))
          case measure => simp [intOf]
      · have e1 : ((c1 : Int) == 8) = false := int_eq_false c1 8 hc
        go_wp2_with (first
    | ((with_reducible show wpList _ _ _ (⟨_, .box _ _, _, _, _, _⟩ :: _) _ _); refine H.xb ?_; (intro g w H; simp only [Act.put, q1_, q2_, q3_]))
    | ((with_reducible show wpList _ _ _ (⟨_, .alloc _, _, _, _, _⟩ :: _) _ _); refine H.xa ?_; (intro g w H; simp only [Act.put, q1_, q2_, q3_]))
    | ((with_reducible show wpList _ _ _ (⟨_, .load _ _, _, _, _, _⟩ :: _) _ _); (first | refine H.xl ?_ | refine H.xm ?_); simp only [Act.put, q1_, q2_, q3_])
    | ((with_reducible show wpList _ _ _ (⟨_, .store _ _ _, _, _, _, _⟩ :: _) _ _); (first | refine H.xs ?_ | refine H.xt ?_); (intro w H; simp only [Act.put]))
    | ((with_reducible show wpList _ _ _ (⟨_, .load 51 _, _, _, _, _⟩ :: _) _ _); refine H.ldo rfl rP rfl rfl hB v7_ (by rfl) ?_; simp only [Act.put, q1_, q2_, q3_])
    | (go_at_call 19; ((with_reducible refine (cN _).mono ?_); rintro e w ⟨rfl, hb⟩; replace H := H.call hb; clear hb))
    )
        all_goals
          go_roundw
          case rel => exact Or.inr (Or.inr (⟨by go_num, (by with_reducible exact flag_off _ _ (by rw [decide_eq_false hc]; simp)), H.sub v6_⟩))
          case measure => simp [intOf]
    · go_wp2_with (first
    | ((with_reducible show wpList _ _ _ (⟨_, .box _ _, _, _, _, _⟩ :: _) _ _); refine H.xb ?_; (intro g w H; simp only [Act.put, q1_, q2_, q3_]))
    | ((with_reducible show wpList _ _ _ (⟨_, .alloc _, _, _, _, _⟩ :: _) _ _); refine H.xa ?_; (intro g w H; simp only [Act.put, q1_, q2_, q3_]))
    | ((with_reducible show wpList _ _ _ (⟨_, .load _ _, _, _, _, _⟩ :: _) _ _); (first | refine H.xl ?_ | refine H.xm ?_); simp only [Act.put, q1_, q2_, q3_])
    | ((with_reducible show wpList _ _ _ (⟨_, .store _ _ _, _, _, _, _⟩ :: _) _ _); (first | refine H.xs ?_ | refine H.xt ?_); (intro w H; simp only [Act.put]))
    | ((with_reducible show wpList _ _ _ (⟨_, .load 51 _, _, _, _, _⟩ :: _) _ _); refine H.ldo rfl rP rfl rfl hB v7_ (by rfl) ?_; simp only [Act.put, q1_, q2_, q3_])
    | (go_at_call 19; ((with_reducible refine (cN _).mono ?_); rintro e w ⟨rfl, hb⟩; replace H := H.call hb; clear hb))
    )
      all_goals
        refine bodyPost_ret (results_ctt rfl rfl (H.res rB v3_ (by first | with_reducible exact ext_2 _ _) (by rfl))) rfl ⟨?_, H.below⟩
        rfl
open Go.RowKit
theorem odd_lim (n : Nat) : (Go.bits .and .u64 (limb n 0) 1 == 1) = decide (n % 2 = 1) := by
  have h1 : (1 : Int) = limb 1 0 := rfl
  rw [h1, limb_and, show n &&& 1 = n % 2 from Nat.and_one_is_mod n, ← h1]
  unfold limb limbN
  rw [Nat.mul_zero, Nat.pow_zero, Nat.div_one, Nat.mod_eq_of_lt (by omega), Bool.eq_iff_iff, beq_iff_eq, decide_eq_true_iff]
  omega
theorem halfN_in (a n : Nat) : halfN a n = -1 ∨ halfN a n = 0 ∨ halfN a n = 1 := by
  unfold halfN
  split
  · simp
  · split
    · split <;> simp
    · simp
theorem roundGrid_any (m s : Nat) (e at_ : Int) (neg mo : Bool) (w : World) (hT : Tab w) (hm : m < 256) (hs : s < top6) (h1 : -2000000 ≤ e) (h2 : e ≤ 2000000) (h3 : -2000000 ≤ at_) (h4 : at_ ≤ 2000000) (hf : e - at_ ≤ 384) :
    Calls Tryd.prog 75 #[.int .u8 m, RV neg s e mo, .int .i64 at_] w fun e' w' => e' = .returned (.tuple #[W (gridN m neg s e mo at_).1, .bool (gridN m neg s e mo at_).2]) ∧ Below w.heap.size w w' := by
  by_cases hn : at_ ≤ e
  · have cL := fun w => wideLeft_any s (-(at_ - e)) w hs
    have hc : clip (-(at_ - e)) = (e - at_).toNat := by unfold clip; omega
    rw [hc] at cL
    have := roundGrid_up m s _ e at_ (at_ - e) neg mo _ w hT h1 h2 h3 h4 rfl (by omega) cL
    simp only [gridN, if_pos hn]
    exact this
  · have cC := fun w hT => jamCut_any s (at_ - e) w hs hT
    have hin := halfN_in s (at_ - e).toNat
    have cR := fun (half : Int) (hh : half = -1 ∨ half = 0 ∨ half = 1) (ex : Bool) w => roundUp_any m neg (Go.bits .and .u64 (limb (s / 2 ^ (at_ - e).toNat) 0) 1 == 1) half ex w hm hh
    simp only [gridN, if_neg hn]
    cases mo with
    | false =>
      simp only [Bool.false_and, cond_false, Bool.not_false, Bool.and_true]
      have cR' := cR _ hin (decide (s % 2 ^ (at_ - e).toNat = 0))
      rw [← odd_lim]
      cases hu : upB m neg (Go.bits .and .u64 (limb (s / 2 ^ (at_ - e).toNat) 0) 1 == 1) (halfN s (at_ - e).toNat) (decide (s % 2 ^ (at_ - e).toNat = 0)) with
      | true =>
        rw [hu] at cR'
        exact roundGrid_f_t m s _ e at_ (at_ - e) _ neg _ w hT h1 h2 h3 h4 rfl (by omega) cC cR'
      | false =>
        rw [hu] at cR'
        exact roundGrid_f_f m s _ e at_ (at_ - e) _ neg _ w hT h1 h2 h3 h4 rfl (by omega) cC cR'
    | true =>
      simp only [Bool.true_and, Bool.not_true, Bool.and_false]
      rw [← odd_lim]
      by_cases hz : halfN s (at_ - e).toNat = 0
      · have hz' : (halfN s (at_ - e).toNat == 0) = true := by rw [hz]; rfl
        have cR' := cR 1 (by omega) false
        rw [decide_eq_true hz, cond_true]
        cases hu : upB m neg (Go.bits .and .u64 (limb (s / 2 ^ (at_ - e).toNat) 0) 1 == 1) 1 false with
        | true =>
          rw [hu] at cR'
          exact roundGrid_tz_t m s _ e at_ (at_ - e) _ neg _ w hT h1 h2 h3 h4 rfl (by omega) hz' cC cR'
        | false =>
          rw [hu] at cR'
          exact roundGrid_tz_f m s _ e at_ (at_ - e) _ neg _ w hT h1 h2 h3 h4 rfl (by omega) hz' cC cR'
      · have hz' : (halfN s (at_ - e).toNat == 0) = false := by rw [beq_eq_false_iff_ne]; exact hz
        have cR' := cR _ hin false
        rw [decide_eq_false hz, cond_false]
        cases hu : upB m neg (Go.bits .and .u64 (limb (s / 2 ^ (at_ - e).toNat) 0) 1 == 1) (halfN s (at_ - e).toNat) false with
        | true =>
          rw [hu] at cR'
          exact roundGrid_tn_t m s _ e at_ (at_ - e) _ neg _ w hT h1 h2 h3 h4 rfl (by omega) hz' cC cR'
        | false =>
          rw [hu] at cR'
          exact roundGrid_tn_f m s _ e at_ (at_ - e) _ neg _ w hT h1 h2 h3 h4 rfl (by omega) hz' cC cR'
open Go.RowKit
theorem roundPack_x_f (f m s p l E k lk z n1 n2 n3 bb : Nat) (e top lo : Int) (neg lo1 lo2 lo3 : Bool) (w : World) (hT : Tab w) (hp : p ≤ 113) (h1 : -1048576 ≤ e) (h2 : e ≤ 1048576) (hl4 : l ≤ 384) (cP : ∀ w, Calls Tryd.prog 53 #[.int .u8 f] w fun e w' => e = .returned (.int .i64 (p : Nat)) ∧ Below w.heap.size w w') (cR : ∀ w, Calls Tryd.prog 72 #[.int .u8 f, .int .u8 m] w fun e w' => e = .returned (.bool true) ∧ w = w') (cL : ∀ w, Calls Tryd.prog 68 #[W s] w fun e w' => e = .returned (.int .i64 (l : Nat)) ∧ Below w.heap.size w w') (hs : s < top6) (hs0 : decide (s = 0) = false) (htop : (l : Int) - 1 + e = top) (l1 : -20000 ≤ lo) (l2 : lo ≤ 20000) (t1 : -1100000 ≤ top) (t2 : top ≤ 1100000) (hE : E ≤ 16383) (cE : ∀ w, Calls Tryd.prog 73 #[.int .u8 f] w fun e w' => e = .returned (.int .i64 lo) ∧ Below w.heap.size w w') (cX : ∀ w, Calls Tryd.prog 43 #[.int .u8 f] w fun e w' => e = .returned (.int .i64 (E : Nat)) ∧ Below w.heap.size w w') (hlk : lk ≤ 384) (hov : ¬ (E : Int) < top) (hov2 : ¬ (E : Int) < (lk : Int) - 1 + (max top lo - (p : Int) + 1)) (cG : ∀ w, Tab w → Calls Tryd.prog 75 #[.int .u8 m, RV neg s e false, .int .i64 (max top lo - (p : Int) + 1)] w fun e w' => e = .returned (.tuple #[W k, .bool true]) ∧ Below w.heap.size w w') (cK : ∀ w, Calls Tryd.prog 68 #[W k] w fun e w' => e = .returned (.int .i64 (lk : Nat)) ∧ Below w.heap.size w w') (cOf : ∀ w, Calls Tryd.prog 77 #[.int .u64 (max top lo - (p : Int) + 1 - lo + (p : Int) - 1)] w fun e w' => e = .returned (W n1) ∧ Below w.heap.size w w') (cLf : ∀ w, Calls Tryd.prog 33 #[W n1, .int .i64 ((p : Int) - 1)] w fun e w' => e = .returned (.tuple #[W n2, .bool lo1]) ∧ Below w.heap.size w w') (cAd : ∀ w, Calls Tryd.prog 36 #[W n2, W k] w fun e w' => e = .returned (.tuple #[W n3, .bool lo2]) ∧ Below w.heap.size w w') (cB : ∀ w, Calls Tryd.prog 78 #[W n3] w fun e w' => e = .returned (.tuple #[BV bb, .bool lo3]) ∧ Below w.heap.size w w') (cZ : ∀ w, Calls Tryd.prog 14 #[.int .u8 f, .bool neg] w fun e w' => e = .returned (BV z) ∧ Below w.heap.size w w')  :
    Calls Tryd.prog 39 #[.int .u8 f, .int .u8 m, RV neg s e false] w fun e w' => e = .returned (.tuple #[.agg #[.int .u64 (Go.bits .or .u64 (limb bb 1) (limb z 1)), .int .u64 (Go.bits .or .u64 (limb bb 0) (limb z 0))], .int .u8 0, .int .i64 0]) ∧ Below w.heap.size w w' := by
  have H := Own.start w
  have HT := Lib.hid hT
  clear hT
  have he2 : decide (e < -1048576) = false := by simp; omega
  have he3 : decide (1048576 < e) = false := by simp; omega
  have eq1 : ∀ w, (Op.equalIn 10000 46 (.agg (limbs s)) (.agg #[.int .u64 0, .int .u64 0, .int .u64 0, .int .u64 0, .int .u64 0, .int .u64 0])).run Tryd.prog w = .ok false w := fun w => (run_equal_zero w s hs).trans (by rw [hs0])
  have v1 : IntKind.i64.wrap ((l : Int) - 1) = (l : Int) - 1 := IntWalk.i64_in _ (by omega)
  have v2 : IntKind.i64.wrap ((l : Int) - 1 + e) = top := by rw [htop]; exact IntWalk.i64_in _ (by omega)
  clear hs hs0 htop
  have hov3 : decide ((E : Int) < top) = false := by simp; omega
  have hov4 : decide ((E : Int) < (lk : Int) - 1 + (max top lo - (p : Int) + 1)) = false := by simp only [decide_eq_false_iff_not]; exact hov2
  go_enter Tryd.func39, Tryd.ntmps39
  exact walk4
theorem roundPack_i_f (f m s p l E k lk z n1 n2 n3 bb : Nat) (e top lo : Int) (neg lo1 lo2 lo3 : Bool) (w : World) (hT : Tab w) (hp : p ≤ 113) (h1 : -1048576 ≤ e) (h2 : e ≤ 1048576) (hl4 : l ≤ 384) (cP : ∀ w, Calls Tryd.prog 53 #[.int .u8 f] w fun e w' => e = .returned (.int .i64 (p : Nat)) ∧ Below w.heap.size w w') (cR : ∀ w, Calls Tryd.prog 72 #[.int .u8 f, .int .u8 m] w fun e w' => e = .returned (.bool true) ∧ w = w') (cL : ∀ w, Calls Tryd.prog 68 #[W s] w fun e w' => e = .returned (.int .i64 (l : Nat)) ∧ Below w.heap.size w w') (hs : s < top6) (hs0 : decide (s = 0) = false) (htop : (l : Int) - 1 + e = top) (l1 : -20000 ≤ lo) (l2 : lo ≤ 20000) (t1 : -1100000 ≤ top) (t2 : top ≤ 1100000) (hE : E ≤ 16383) (cE : ∀ w, Calls Tryd.prog 73 #[.int .u8 f] w fun e w' => e = .returned (.int .i64 lo) ∧ Below w.heap.size w w') (cX : ∀ w, Calls Tryd.prog 43 #[.int .u8 f] w fun e w' => e = .returned (.int .i64 (E : Nat)) ∧ Below w.heap.size w w') (hlk : lk ≤ 384) (hov : ¬ (E : Int) < top) (hov2 : ¬ (E : Int) < (lk : Int) - 1 + (max top lo - (p : Int) + 1)) (cG : ∀ w, Tab w → Calls Tryd.prog 75 #[.int .u8 m, RV neg s e false, .int .i64 (max top lo - (p : Int) + 1)] w fun e w' => e = .returned (.tuple #[W k, .bool false]) ∧ Below w.heap.size w w') (cK : ∀ w, Calls Tryd.prog 68 #[W k] w fun e w' => e = .returned (.int .i64 (lk : Nat)) ∧ Below w.heap.size w w') (cOf : ∀ w, Calls Tryd.prog 77 #[.int .u64 (max top lo - (p : Int) + 1 - lo + (p : Int) - 1)] w fun e w' => e = .returned (W n1) ∧ Below w.heap.size w w') (cLf : ∀ w, Calls Tryd.prog 33 #[W n1, .int .i64 ((p : Int) - 1)] w fun e w' => e = .returned (.tuple #[W n2, .bool lo1]) ∧ Below w.heap.size w w') (cAd : ∀ w, Calls Tryd.prog 36 #[W n2, W k] w fun e w' => e = .returned (.tuple #[W n3, .bool lo2]) ∧ Below w.heap.size w w') (cB : ∀ w, Calls Tryd.prog 78 #[W n3] w fun e w' => e = .returned (.tuple #[BV bb, .bool lo3]) ∧ Below w.heap.size w w') (cZ : ∀ w, Calls Tryd.prog 14 #[.int .u8 f, .bool neg] w fun e w' => e = .returned (BV z) ∧ Below w.heap.size w w') (cT : ∀ w, Tab w → Calls Tryd.prog 76 #[.int .u8 f, .int .u8 m, RV neg s e false, .int .i64 top] w fun e w' => e = .returned (.bool false) ∧ Below w.heap.size w w')  :
    Calls Tryd.prog 39 #[.int .u8 f, .int .u8 m, RV neg s e false] w fun e w' => e = .returned (.tuple #[.agg #[.int .u64 (Go.bits .or .u64 (limb bb 1) (limb z 1)), .int .u64 (Go.bits .or .u64 (limb bb 0) (limb z 0))], .int .u8 (Go.bits .or .u8 0 1), .int .i64 0]) ∧ Below w.heap.size w w' := by
  have H := Own.start w
  have HT := Lib.hid hT
  clear hT
  have he2 : decide (e < -1048576) = false := by simp; omega
  have he3 : decide (1048576 < e) = false := by simp; omega
  have eq1 : ∀ w, (Op.equalIn 10000 46 (.agg (limbs s)) (.agg #[.int .u64 0, .int .u64 0, .int .u64 0, .int .u64 0, .int .u64 0, .int .u64 0])).run Tryd.prog w = .ok false w := fun w => (run_equal_zero w s hs).trans (by rw [hs0])
  have v1 : IntKind.i64.wrap ((l : Int) - 1) = (l : Int) - 1 := IntWalk.i64_in _ (by omega)
  have v2 : IntKind.i64.wrap ((l : Int) - 1 + e) = top := by rw [htop]; exact IntWalk.i64_in _ (by omega)
  clear hs hs0 htop
  have hov3 : decide ((E : Int) < top) = false := by simp; omega
  have hov4 : decide ((E : Int) < (lk : Int) - 1 + (max top lo - (p : Int) + 1)) = false := by simp only [decide_eq_false_iff_not]; exact hov2
  go_enter Tryd.func39, Tryd.ntmps39
  exact walk4
theorem roundPack_u_f (f m s p l E k lk z n1 n2 n3 bb : Nat) (e top lo : Int) (neg lo1 lo2 lo3 : Bool) (w : World) (hT : Tab w) (hp : p ≤ 113) (h1 : -1048576 ≤ e) (h2 : e ≤ 1048576) (hl4 : l ≤ 384) (cP : ∀ w, Calls Tryd.prog 53 #[.int .u8 f] w fun e w' => e = .returned (.int .i64 (p : Nat)) ∧ Below w.heap.size w w') (cR : ∀ w, Calls Tryd.prog 72 #[.int .u8 f, .int .u8 m] w fun e w' => e = .returned (.bool true) ∧ w = w') (cL : ∀ w, Calls Tryd.prog 68 #[W s] w fun e w' => e = .returned (.int .i64 (l : Nat)) ∧ Below w.heap.size w w') (hs : s < top6) (hs0 : decide (s = 0) = false) (htop : (l : Int) - 1 + e = top) (l1 : -20000 ≤ lo) (l2 : lo ≤ 20000) (t1 : -1100000 ≤ top) (t2 : top ≤ 1100000) (hE : E ≤ 16383) (cE : ∀ w, Calls Tryd.prog 73 #[.int .u8 f] w fun e w' => e = .returned (.int .i64 lo) ∧ Below w.heap.size w w') (cX : ∀ w, Calls Tryd.prog 43 #[.int .u8 f] w fun e w' => e = .returned (.int .i64 (E : Nat)) ∧ Below w.heap.size w w') (hlk : lk ≤ 384) (hov : ¬ (E : Int) < top) (hov2 : ¬ (E : Int) < (lk : Int) - 1 + (max top lo - (p : Int) + 1)) (cG : ∀ w, Tab w → Calls Tryd.prog 75 #[.int .u8 m, RV neg s e false, .int .i64 (max top lo - (p : Int) + 1)] w fun e w' => e = .returned (.tuple #[W k, .bool false]) ∧ Below w.heap.size w w') (cK : ∀ w, Calls Tryd.prog 68 #[W k] w fun e w' => e = .returned (.int .i64 (lk : Nat)) ∧ Below w.heap.size w w') (cOf : ∀ w, Calls Tryd.prog 77 #[.int .u64 (max top lo - (p : Int) + 1 - lo + (p : Int) - 1)] w fun e w' => e = .returned (W n1) ∧ Below w.heap.size w w') (cLf : ∀ w, Calls Tryd.prog 33 #[W n1, .int .i64 ((p : Int) - 1)] w fun e w' => e = .returned (.tuple #[W n2, .bool lo1]) ∧ Below w.heap.size w w') (cAd : ∀ w, Calls Tryd.prog 36 #[W n2, W k] w fun e w' => e = .returned (.tuple #[W n3, .bool lo2]) ∧ Below w.heap.size w w') (cB : ∀ w, Calls Tryd.prog 78 #[W n3] w fun e w' => e = .returned (.tuple #[BV bb, .bool lo3]) ∧ Below w.heap.size w w') (cZ : ∀ w, Calls Tryd.prog 14 #[.int .u8 f, .bool neg] w fun e w' => e = .returned (BV z) ∧ Below w.heap.size w w') (cT : ∀ w, Tab w → Calls Tryd.prog 76 #[.int .u8 f, .int .u8 m, RV neg s e false, .int .i64 top] w fun e w' => e = .returned (.bool true) ∧ Below w.heap.size w w')  :
    Calls Tryd.prog 39 #[.int .u8 f, .int .u8 m, RV neg s e false] w fun e w' => e = .returned (.tuple #[.agg #[.int .u64 (Go.bits .or .u64 (limb bb 1) (limb z 1)), .int .u64 (Go.bits .or .u64 (limb bb 0) (limb z 0))], .int .u8 (Go.bits .or .u8 (Go.bits .or .u8 0 1) 2), .int .i64 0]) ∧ Below w.heap.size w w' := by
  have H := Own.start w
  have HT := Lib.hid hT
  clear hT
  have he2 : decide (e < -1048576) = false := by simp; omega
  have he3 : decide (1048576 < e) = false := by simp; omega
  have eq1 : ∀ w, (Op.equalIn 10000 46 (.agg (limbs s)) (.agg #[.int .u64 0, .int .u64 0, .int .u64 0, .int .u64 0, .int .u64 0, .int .u64 0])).run Tryd.prog w = .ok false w := fun w => (run_equal_zero w s hs).trans (by rw [hs0])
  have v1 : IntKind.i64.wrap ((l : Int) - 1) = (l : Int) - 1 := IntWalk.i64_in _ (by omega)
  have v2 : IntKind.i64.wrap ((l : Int) - 1 + e) = top := by rw [htop]; exact IntWalk.i64_in _ (by omega)
  clear hs hs0 htop
  have hov3 : decide ((E : Int) < top) = false := by simp; omega
  have hov4 : decide ((E : Int) < (lk : Int) - 1 + (max top lo - (p : Int) + 1)) = false := by simp only [decide_eq_false_iff_not]; exact hov2
  go_enter Tryd.func39, Tryd.ntmps39
  exact walk4
theorem roundPack_x_t (f m s p l E k lk z n1 n2 n3 bb : Nat) (e top lo : Int) (neg lo1 lo2 lo3 : Bool) (w : World) (hT : Tab w) (hp : p ≤ 113) (h1 : -1048576 ≤ e) (h2 : e ≤ 1048576) (hl4 : l ≤ 384) (hl : ¬ l < p + 2) (cP : ∀ w, Calls Tryd.prog 53 #[.int .u8 f] w fun e w' => e = .returned (.int .i64 (p : Nat)) ∧ Below w.heap.size w w') (cR : ∀ w, Calls Tryd.prog 72 #[.int .u8 f, .int .u8 m] w fun e w' => e = .returned (.bool true) ∧ w = w') (cL : ∀ w, Calls Tryd.prog 68 #[W s] w fun e w' => e = .returned (.int .i64 (l : Nat)) ∧ Below w.heap.size w w') (hs : s < top6) (hs0 : decide (s = 0) = false) (htop : (l : Int) - 1 + e = top) (l1 : -20000 ≤ lo) (l2 : lo ≤ 20000) (t1 : -1100000 ≤ top) (t2 : top ≤ 1100000) (hE : E ≤ 16383) (cE : ∀ w, Calls Tryd.prog 73 #[.int .u8 f] w fun e w' => e = .returned (.int .i64 lo) ∧ Below w.heap.size w w') (cX : ∀ w, Calls Tryd.prog 43 #[.int .u8 f] w fun e w' => e = .returned (.int .i64 (E : Nat)) ∧ Below w.heap.size w w') (hlk : lk ≤ 384) (hov : ¬ (E : Int) < top) (hov2 : ¬ (E : Int) < (lk : Int) - 1 + (max top lo - (p : Int) + 1)) (cG : ∀ w, Tab w → Calls Tryd.prog 75 #[.int .u8 m, RV neg s e true, .int .i64 (max top lo - (p : Int) + 1)] w fun e w' => e = .returned (.tuple #[W k, .bool true]) ∧ Below w.heap.size w w') (cK : ∀ w, Calls Tryd.prog 68 #[W k] w fun e w' => e = .returned (.int .i64 (lk : Nat)) ∧ Below w.heap.size w w') (cOf : ∀ w, Calls Tryd.prog 77 #[.int .u64 (max top lo - (p : Int) + 1 - lo + (p : Int) - 1)] w fun e w' => e = .returned (W n1) ∧ Below w.heap.size w w') (cLf : ∀ w, Calls Tryd.prog 33 #[W n1, .int .i64 ((p : Int) - 1)] w fun e w' => e = .returned (.tuple #[W n2, .bool lo1]) ∧ Below w.heap.size w w') (cAd : ∀ w, Calls Tryd.prog 36 #[W n2, W k] w fun e w' => e = .returned (.tuple #[W n3, .bool lo2]) ∧ Below w.heap.size w w') (cB : ∀ w, Calls Tryd.prog 78 #[W n3] w fun e w' => e = .returned (.tuple #[BV bb, .bool lo3]) ∧ Below w.heap.size w w') (cZ : ∀ w, Calls Tryd.prog 14 #[.int .u8 f, .bool neg] w fun e w' => e = .returned (BV z) ∧ Below w.heap.size w w')  :
    Calls Tryd.prog 39 #[.int .u8 f, .int .u8 m, RV neg s e true] w fun e w' => e = .returned (.tuple #[.agg #[.int .u64 (Go.bits .or .u64 (limb bb 1) (limb z 1)), .int .u64 (Go.bits .or .u64 (limb bb 0) (limb z 0))], .int .u8 0, .int .i64 0]) ∧ Below w.heap.size w w' := by
  have H := Own.start w
  have HT := Lib.hid hT
  clear hT
  have he2 : decide (e < -1048576) = false := by simp; omega
  have he3 : decide (1048576 < e) = false := by simp; omega
  have hl2 : decide ((l : Int) < (p : Int) + 2) = false := by simp; omega
  have eq1 : ∀ w, (Op.equalIn 10000 46 (.agg (limbs s)) (.agg #[.int .u64 0, .int .u64 0, .int .u64 0, .int .u64 0, .int .u64 0, .int .u64 0])).run Tryd.prog w = .ok false w := fun w => (run_equal_zero w s hs).trans (by rw [hs0])
  have v1 : IntKind.i64.wrap ((l : Int) - 1) = (l : Int) - 1 := IntWalk.i64_in _ (by omega)
  have v2 : IntKind.i64.wrap ((l : Int) - 1 + e) = top := by rw [htop]; exact IntWalk.i64_in _ (by omega)
  clear hs hs0 htop
  have hov3 : decide ((E : Int) < top) = false := by simp; omega
  have hov4 : decide ((E : Int) < (lk : Int) - 1 + (max top lo - (p : Int) + 1)) = false := by simp only [decide_eq_false_iff_not]; exact hov2
  go_enter Tryd.func39, Tryd.ntmps39
  exact walk4
theorem roundPack_i_t (f m s p l E k lk z n1 n2 n3 bb : Nat) (e top lo : Int) (neg lo1 lo2 lo3 : Bool) (w : World) (hT : Tab w) (hp : p ≤ 113) (h1 : -1048576 ≤ e) (h2 : e ≤ 1048576) (hl4 : l ≤ 384) (hl : ¬ l < p + 2) (cP : ∀ w, Calls Tryd.prog 53 #[.int .u8 f] w fun e w' => e = .returned (.int .i64 (p : Nat)) ∧ Below w.heap.size w w') (cR : ∀ w, Calls Tryd.prog 72 #[.int .u8 f, .int .u8 m] w fun e w' => e = .returned (.bool true) ∧ w = w') (cL : ∀ w, Calls Tryd.prog 68 #[W s] w fun e w' => e = .returned (.int .i64 (l : Nat)) ∧ Below w.heap.size w w') (hs : s < top6) (hs0 : decide (s = 0) = false) (htop : (l : Int) - 1 + e = top) (l1 : -20000 ≤ lo) (l2 : lo ≤ 20000) (t1 : -1100000 ≤ top) (t2 : top ≤ 1100000) (hE : E ≤ 16383) (cE : ∀ w, Calls Tryd.prog 73 #[.int .u8 f] w fun e w' => e = .returned (.int .i64 lo) ∧ Below w.heap.size w w') (cX : ∀ w, Calls Tryd.prog 43 #[.int .u8 f] w fun e w' => e = .returned (.int .i64 (E : Nat)) ∧ Below w.heap.size w w') (hlk : lk ≤ 384) (hov : ¬ (E : Int) < top) (hov2 : ¬ (E : Int) < (lk : Int) - 1 + (max top lo - (p : Int) + 1)) (cG : ∀ w, Tab w → Calls Tryd.prog 75 #[.int .u8 m, RV neg s e true, .int .i64 (max top lo - (p : Int) + 1)] w fun e w' => e = .returned (.tuple #[W k, .bool false]) ∧ Below w.heap.size w w') (cK : ∀ w, Calls Tryd.prog 68 #[W k] w fun e w' => e = .returned (.int .i64 (lk : Nat)) ∧ Below w.heap.size w w') (cOf : ∀ w, Calls Tryd.prog 77 #[.int .u64 (max top lo - (p : Int) + 1 - lo + (p : Int) - 1)] w fun e w' => e = .returned (W n1) ∧ Below w.heap.size w w') (cLf : ∀ w, Calls Tryd.prog 33 #[W n1, .int .i64 ((p : Int) - 1)] w fun e w' => e = .returned (.tuple #[W n2, .bool lo1]) ∧ Below w.heap.size w w') (cAd : ∀ w, Calls Tryd.prog 36 #[W n2, W k] w fun e w' => e = .returned (.tuple #[W n3, .bool lo2]) ∧ Below w.heap.size w w') (cB : ∀ w, Calls Tryd.prog 78 #[W n3] w fun e w' => e = .returned (.tuple #[BV bb, .bool lo3]) ∧ Below w.heap.size w w') (cZ : ∀ w, Calls Tryd.prog 14 #[.int .u8 f, .bool neg] w fun e w' => e = .returned (BV z) ∧ Below w.heap.size w w') (cT : ∀ w, Tab w → Calls Tryd.prog 76 #[.int .u8 f, .int .u8 m, RV neg s e true, .int .i64 top] w fun e w' => e = .returned (.bool false) ∧ Below w.heap.size w w')  :
    Calls Tryd.prog 39 #[.int .u8 f, .int .u8 m, RV neg s e true] w fun e w' => e = .returned (.tuple #[.agg #[.int .u64 (Go.bits .or .u64 (limb bb 1) (limb z 1)), .int .u64 (Go.bits .or .u64 (limb bb 0) (limb z 0))], .int .u8 (Go.bits .or .u8 0 1), .int .i64 0]) ∧ Below w.heap.size w w' := by
  have H := Own.start w
  have HT := Lib.hid hT
  clear hT
  have he2 : decide (e < -1048576) = false := by simp; omega
  have he3 : decide (1048576 < e) = false := by simp; omega
  have hl2 : decide ((l : Int) < (p : Int) + 2) = false := by simp; omega
  have eq1 : ∀ w, (Op.equalIn 10000 46 (.agg (limbs s)) (.agg #[.int .u64 0, .int .u64 0, .int .u64 0, .int .u64 0, .int .u64 0, .int .u64 0])).run Tryd.prog w = .ok false w := fun w => (run_equal_zero w s hs).trans (by rw [hs0])
  have v1 : IntKind.i64.wrap ((l : Int) - 1) = (l : Int) - 1 := IntWalk.i64_in _ (by omega)
  have v2 : IntKind.i64.wrap ((l : Int) - 1 + e) = top := by rw [htop]; exact IntWalk.i64_in _ (by omega)
  clear hs hs0 htop
  have hov3 : decide ((E : Int) < top) = false := by simp; omega
  have hov4 : decide ((E : Int) < (lk : Int) - 1 + (max top lo - (p : Int) + 1)) = false := by simp only [decide_eq_false_iff_not]; exact hov2
  go_enter Tryd.func39, Tryd.ntmps39
  exact walk4
theorem roundPack_u_t (f m s p l E k lk z n1 n2 n3 bb : Nat) (e top lo : Int) (neg lo1 lo2 lo3 : Bool) (w : World) (hT : Tab w) (hp : p ≤ 113) (h1 : -1048576 ≤ e) (h2 : e ≤ 1048576) (hl4 : l ≤ 384) (hl : ¬ l < p + 2) (cP : ∀ w, Calls Tryd.prog 53 #[.int .u8 f] w fun e w' => e = .returned (.int .i64 (p : Nat)) ∧ Below w.heap.size w w') (cR : ∀ w, Calls Tryd.prog 72 #[.int .u8 f, .int .u8 m] w fun e w' => e = .returned (.bool true) ∧ w = w') (cL : ∀ w, Calls Tryd.prog 68 #[W s] w fun e w' => e = .returned (.int .i64 (l : Nat)) ∧ Below w.heap.size w w') (hs : s < top6) (hs0 : decide (s = 0) = false) (htop : (l : Int) - 1 + e = top) (l1 : -20000 ≤ lo) (l2 : lo ≤ 20000) (t1 : -1100000 ≤ top) (t2 : top ≤ 1100000) (hE : E ≤ 16383) (cE : ∀ w, Calls Tryd.prog 73 #[.int .u8 f] w fun e w' => e = .returned (.int .i64 lo) ∧ Below w.heap.size w w') (cX : ∀ w, Calls Tryd.prog 43 #[.int .u8 f] w fun e w' => e = .returned (.int .i64 (E : Nat)) ∧ Below w.heap.size w w') (hlk : lk ≤ 384) (hov : ¬ (E : Int) < top) (hov2 : ¬ (E : Int) < (lk : Int) - 1 + (max top lo - (p : Int) + 1)) (cG : ∀ w, Tab w → Calls Tryd.prog 75 #[.int .u8 m, RV neg s e true, .int .i64 (max top lo - (p : Int) + 1)] w fun e w' => e = .returned (.tuple #[W k, .bool false]) ∧ Below w.heap.size w w') (cK : ∀ w, Calls Tryd.prog 68 #[W k] w fun e w' => e = .returned (.int .i64 (lk : Nat)) ∧ Below w.heap.size w w') (cOf : ∀ w, Calls Tryd.prog 77 #[.int .u64 (max top lo - (p : Int) + 1 - lo + (p : Int) - 1)] w fun e w' => e = .returned (W n1) ∧ Below w.heap.size w w') (cLf : ∀ w, Calls Tryd.prog 33 #[W n1, .int .i64 ((p : Int) - 1)] w fun e w' => e = .returned (.tuple #[W n2, .bool lo1]) ∧ Below w.heap.size w w') (cAd : ∀ w, Calls Tryd.prog 36 #[W n2, W k] w fun e w' => e = .returned (.tuple #[W n3, .bool lo2]) ∧ Below w.heap.size w w') (cB : ∀ w, Calls Tryd.prog 78 #[W n3] w fun e w' => e = .returned (.tuple #[BV bb, .bool lo3]) ∧ Below w.heap.size w w') (cZ : ∀ w, Calls Tryd.prog 14 #[.int .u8 f, .bool neg] w fun e w' => e = .returned (BV z) ∧ Below w.heap.size w w') (cT : ∀ w, Tab w → Calls Tryd.prog 76 #[.int .u8 f, .int .u8 m, RV neg s e true, .int .i64 top] w fun e w' => e = .returned (.bool true) ∧ Below w.heap.size w w')  :
    Calls Tryd.prog 39 #[.int .u8 f, .int .u8 m, RV neg s e true] w fun e w' => e = .returned (.tuple #[.agg #[.int .u64 (Go.bits .or .u64 (limb bb 1) (limb z 1)), .int .u64 (Go.bits .or .u64 (limb bb 0) (limb z 0))], .int .u8 (Go.bits .or .u8 (Go.bits .or .u8 0 1) 2), .int .i64 0]) ∧ Below w.heap.size w w' := by
  have H := Own.start w
  have HT := Lib.hid hT
  clear hT
  have he2 : decide (e < -1048576) = false := by simp; omega
  have he3 : decide (1048576 < e) = false := by simp; omega
  have hl2 : decide ((l : Int) < (p : Int) + 2) = false := by simp; omega
  have eq1 : ∀ w, (Op.equalIn 10000 46 (.agg (limbs s)) (.agg #[.int .u64 0, .int .u64 0, .int .u64 0, .int .u64 0, .int .u64 0, .int .u64 0])).run Tryd.prog w = .ok false w := fun w => (run_equal_zero w s hs).trans (by rw [hs0])
  have v1 : IntKind.i64.wrap ((l : Int) - 1) = (l : Int) - 1 := IntWalk.i64_in _ (by omega)
  have v2 : IntKind.i64.wrap ((l : Int) - 1 + e) = top := by rw [htop]; exact IntWalk.i64_in _ (by omega)
  clear hs hs0 htop
  have hov3 : decide ((E : Int) < top) = false := by simp; omega
  have hov4 : decide ((E : Int) < (lk : Int) - 1 + (max top lo - (p : Int) + 1)) = false := by simp only [decide_eq_false_iff_not]; exact hov2
  go_enter Tryd.func39, Tryd.ntmps39
  exact walk4
open Go.RowKit
theorem roundPack_over2_f (f m s p l E k lk o : Nat) (e top lo : Int) (neg ex : Bool) (w : World) (hT : Tab w) (hp : p ≤ 113) (h1 : -1048576 ≤ e) (h2 : e ≤ 1048576) (hl4 : l ≤ 384) (cP : ∀ w, Calls Tryd.prog 53 #[.int .u8 f] w fun e w' => e = .returned (.int .i64 (p : Nat)) ∧ Below w.heap.size w w') (cR : ∀ w, Calls Tryd.prog 72 #[.int .u8 f, .int .u8 m] w fun e w' => e = .returned (.bool true) ∧ w = w') (cL : ∀ w, Calls Tryd.prog 68 #[W s] w fun e w' => e = .returned (.int .i64 (l : Nat)) ∧ Below w.heap.size w w') (hs : s < top6) (hs0 : decide (s = 0) = false) (htop : (l : Int) - 1 + e = top) (l1 : -20000 ≤ lo) (l2 : lo ≤ 20000) (t1 : -1100000 ≤ top) (t2 : top ≤ 1100000) (hE : E ≤ 16383) (cE : ∀ w, Calls Tryd.prog 73 #[.int .u8 f] w fun e w' => e = .returned (.int .i64 lo) ∧ Below w.heap.size w w') (cX : ∀ w, Calls Tryd.prog 43 #[.int .u8 f] w fun e w' => e = .returned (.int .i64 (E : Nat)) ∧ Below w.heap.size w w') (hlk : lk ≤ 384) (hov : ¬ (E : Int) < top) (hov2 : (E : Int) < (lk : Int) - 1 + (max top lo - (p : Int) + 1)) (cG : ∀ w, Tab w → Calls Tryd.prog 75 #[.int .u8 m, RV neg s e false, .int .i64 (max top lo - (p : Int) + 1)] w fun e w' => e = .returned (.tuple #[W k, .bool ex]) ∧ Below w.heap.size w w') (cK : ∀ w, Calls Tryd.prog 68 #[W k] w fun e w' => e = .returned (.int .i64 (lk : Nat)) ∧ Below w.heap.size w w') (cO : ∀ w, Calls Tryd.prog 74 #[.int .u8 f, .int .u8 m, .bool neg] w fun e w' => e = .returned (.tuple #[BV o, .int .u8 5, .int .i64 0]) ∧ Below w.heap.size w w')  :
    Calls Tryd.prog 39 #[.int .u8 f, .int .u8 m, RV neg s e false] w fun e w' => e = .returned (.tuple #[BV o, .int .u8 5, .int .i64 0]) ∧ Below w.heap.size w w' := by
  have H := Own.start w
  have HT := Lib.hid hT
  clear hT
  have he2 : decide (e < -1048576) = false := by simp; omega
  have he3 : decide (1048576 < e) = false := by simp; omega
  have eq1 : ∀ w, (Op.equalIn 10000 46 (.agg (limbs s)) (.agg #[.int .u64 0, .int .u64 0, .int .u64 0, .int .u64 0, .int .u64 0, .int .u64 0])).run Tryd.prog w = .ok false w := fun w => (run_equal_zero w s hs).trans (by rw [hs0])
  have v1 : IntKind.i64.wrap ((l : Int) - 1) = (l : Int) - 1 := IntWalk.i64_in _ (by omega)
  have v2 : IntKind.i64.wrap ((l : Int) - 1 + e) = top := by rw [htop]; exact IntWalk.i64_in _ (by omega)
  clear hs hs0 htop
  have hov3 : decide ((E : Int) < top) = false := by simp; omega
  have hov4 : decide ((E : Int) < (lk : Int) - 1 + (max top lo - (p : Int) + 1)) = true := by simp only [decide_eq_true_eq]; exact hov2
  go_enter Tryd.func39, Tryd.ntmps39
  exact walk4
theorem roundPack_over2_t (f m s p l E k lk o : Nat) (e top lo : Int) (neg ex : Bool) (w : World) (hT : Tab w) (hp : p ≤ 113) (h1 : -1048576 ≤ e) (h2 : e ≤ 1048576) (hl4 : l ≤ 384) (hl : ¬ l < p + 2) (cP : ∀ w, Calls Tryd.prog 53 #[.int .u8 f] w fun e w' => e = .returned (.int .i64 (p : Nat)) ∧ Below w.heap.size w w') (cR : ∀ w, Calls Tryd.prog 72 #[.int .u8 f, .int .u8 m] w fun e w' => e = .returned (.bool true) ∧ w = w') (cL : ∀ w, Calls Tryd.prog 68 #[W s] w fun e w' => e = .returned (.int .i64 (l : Nat)) ∧ Below w.heap.size w w') (hs : s < top6) (hs0 : decide (s = 0) = false) (htop : (l : Int) - 1 + e = top) (l1 : -20000 ≤ lo) (l2 : lo ≤ 20000) (t1 : -1100000 ≤ top) (t2 : top ≤ 1100000) (hE : E ≤ 16383) (cE : ∀ w, Calls Tryd.prog 73 #[.int .u8 f] w fun e w' => e = .returned (.int .i64 lo) ∧ Below w.heap.size w w') (cX : ∀ w, Calls Tryd.prog 43 #[.int .u8 f] w fun e w' => e = .returned (.int .i64 (E : Nat)) ∧ Below w.heap.size w w') (hlk : lk ≤ 384) (hov : ¬ (E : Int) < top) (hov2 : (E : Int) < (lk : Int) - 1 + (max top lo - (p : Int) + 1)) (cG : ∀ w, Tab w → Calls Tryd.prog 75 #[.int .u8 m, RV neg s e true, .int .i64 (max top lo - (p : Int) + 1)] w fun e w' => e = .returned (.tuple #[W k, .bool ex]) ∧ Below w.heap.size w w') (cK : ∀ w, Calls Tryd.prog 68 #[W k] w fun e w' => e = .returned (.int .i64 (lk : Nat)) ∧ Below w.heap.size w w') (cO : ∀ w, Calls Tryd.prog 74 #[.int .u8 f, .int .u8 m, .bool neg] w fun e w' => e = .returned (.tuple #[BV o, .int .u8 5, .int .i64 0]) ∧ Below w.heap.size w w')  :
    Calls Tryd.prog 39 #[.int .u8 f, .int .u8 m, RV neg s e true] w fun e w' => e = .returned (.tuple #[BV o, .int .u8 5, .int .i64 0]) ∧ Below w.heap.size w w' := by
  have H := Own.start w
  have HT := Lib.hid hT
  clear hT
  have he2 : decide (e < -1048576) = false := by simp; omega
  have he3 : decide (1048576 < e) = false := by simp; omega
  have hl2 : decide ((l : Int) < (p : Int) + 2) = false := by simp; omega
  have eq1 : ∀ w, (Op.equalIn 10000 46 (.agg (limbs s)) (.agg #[.int .u64 0, .int .u64 0, .int .u64 0, .int .u64 0, .int .u64 0, .int .u64 0])).run Tryd.prog w = .ok false w := fun w => (run_equal_zero w s hs).trans (by rw [hs0])
  have v1 : IntKind.i64.wrap ((l : Int) - 1) = (l : Int) - 1 := IntWalk.i64_in _ (by omega)
  have v2 : IntKind.i64.wrap ((l : Int) - 1 + e) = top := by rw [htop]; exact IntWalk.i64_in _ (by omega)
  clear hs hs0 htop
  have hov3 : decide ((E : Int) < top) = false := by simp; omega
  have hov4 : decide ((E : Int) < (lk : Int) - 1 + (max top lo - (p : Int) + 1)) = true := by simp only [decide_eq_true_eq]; exact hov2
  go_enter Tryd.func39, Tryd.ntmps39
  exact walk4
theorem pF_113 (f : Nat) : pF f ≤ 113 := by
  rcases forms f with rfl | rfl | rfl | rfl | h
  · decide
  · decide
  · decide
  · decide
  · rw [(wF_big f h).2.1]; decide
theorem lt_pwr (T b c x : Nat) (h : T = 2 ^ c) (hb : b ≤ c) (hx : x < 2 ^ b) : x < T := by rw [h]; exact Nat.lt_of_lt_of_le hx (Nat.pow_le_pow_right (by decide) hb)
theorem gridN_le (m s p : Nat) (neg mo : Bool) (e at_ : Int) (h : (lenN s : Int) + e - at_ ≤ p) : (gridN m neg s e mo at_).1 ≤ 2 ^ p := by
  have hs := lenN_lt s
  unfold gridN
  by_cases hn : at_ ≤ e
  · rw [if_pos hn]
    obtain ⟨d, hd⟩ : ∃ d, d = (e - at_).toNat := ⟨_, rfl⟩
    rw [← hd]
    have h1 : s * 2 ^ d ≤ 2 ^ lenN s * 2 ^ d := Nat.mul_le_mul_right _ (Nat.le_of_lt hs)
    rw [← Nat.pow_add] at h1
    exact Nat.le_trans h1 (Nat.pow_le_pow_right (by decide) (by omega))
  · rw [if_neg hn]
    obtain ⟨d, hd⟩ : ∃ d, d = (at_ - e).toNat := ⟨_, rfl⟩
    rw [← hd]
    have h1 : s < 2 ^ (p + d) := Nat.lt_of_lt_of_le hs (Nat.pow_le_pow_right (by decide) (by omega))
    rw [Nat.pow_add] at h1
    have h2 : s / 2 ^ d < 2 ^ p := by
      rw [Nat.div_lt_iff_lt_mul (two_pos d)]; exact h1
    have h3 : ∀ b : Bool, s / 2 ^ d + cond b 1 0 ≤ 2 ^ p := by intro b; cases b <;> simp only [cond_true, cond_false] <;> omega
    exact h3 _
theorem lt_top114 (x p : Nat) (hp : p ≤ 113) (h : x ≤ 2 ^ p) : x < top6 :=
  lt_pwr top6 (p + 1) (64 * 6) x top6.eq_1 (by omega) (Nat.lt_of_le_of_lt h (Nat.pow_lt_pow_right (by decide) (by omega)))
theorem lenN_le_of (x p : Nat) (h : x ≤ 2 ^ p) : lenN x ≤ p + 1 := (lenN_le x (p + 1)).2 (Nat.lt_of_le_of_lt h (Nat.pow_lt_pow_right (by decide) (by omega)))
theorem enc_lt (f k : Nat) (d : Nat) (hf : f < 4) (hk : k ≤ 2 ^ pF f) (hd : d + 1 ≤ 2 * eF f) : d * 2 ^ (pF f - 1) + k < 2 ^ (wF f - 1) := by
  have hK := formK f hf
  rw [hK.2.1, Nat.pow_add, hK.2.2.1, Nat.mul_comm (2 ^ (pF f - 1))]
  have h2 : 2 ^ pF f = 2 * 2 ^ (pF f - 1) := by
    rw [show pF f = (pF f - 1) + 1 by omega, Nat.pow_succ, Nat.add_sub_cancel]; omega
  have := two_pos (pF f - 1)
  have h3 : (d + 3) * 2 ^ (pF f - 1) ≤ (2 * eF f + 2) * 2 ^ (pF f - 1) := Nat.mul_le_mul_right _ (by omega)
  rw [Nat.add_mul] at h3
  omega
open Go.RowKit
theorem roundTiny_any (f m s : Nat) (e top : Int) (neg mo : Bool) (w : World) (hT : Tab w) (hf : f < 4) (hm : m < 5) (hs : s < top6) (hs0 : s ≠ 0) (h1 : -1048576 ≤ e) (h2 : e ≤ 1048576) (ht : (lenN s : Int) - 1 + e = top) :
    Calls Tryd.prog 76 #[.int .u8 f, .int .u8 m, RV neg s e mo, .int .i64 top] w fun e' w' => e' = .returned (.bool (tinyB f m neg s e mo top)) ∧ Below w.heap.size w w' := by
  have hK := formK f hf
  have hp := pF_113 f
  have hl := lenN_pos s hs0
  have hl4 : lenN s ≤ 384 := (lenN_le s 384).2 (by rw [show 384 = 64 * 6 from rfl, ← top6.eq_1]; exact hs)
  have cE := fun w => shapeEmin_any f w (by omega)
  have cP := fun w => shapePrecision_any f w (by omega)
  unfold tinyB
  by_cases hq : top = eminI f - 1
  · rw [if_pos hq]
    have hk := gridN_le m s (pF f) neg mo e (top - pF f + 1) (by omega)
    have cG := fun w hT => roundGrid_any m s e (top - pF f + 1) neg mo w hT (by omega) hs (by omega) (by omega) (by omega) (by omega) (by omega)
    have cK := fun w => wideLen_any (gridN m neg s e mo (top - pF f + 1)).1 w (lt_top114 _ _ hp hk)
    exact roundTiny_eq f m s (pF f) _ _ e top (eminI f) _ neg mo _ w hT hp (by omega) (by omega) (by omega) (by omega) (by rw [hq, beq_self_eq_true]) rfl cE cP cG cK
  · rw [if_neg hq]
    exact roundTiny_ne f m s (pF f) e top (eminI f) neg mo w hT hp (by omega) (by omega) (by omega) (by omega) (by rw [beq_eq_false_iff_ne]; exact hq) cE cP
theorem roundPack_any (f m s : Nat) (e : Int) (neg mo : Bool) (w : World) (hT : Tab w) (hf : f < 256) (hm : m < 256) (hs : s < top6) :
    Calls Tryd.prog 39 #[.int .u8 f, .int .u8 m, RV neg s e mo] w fun e' w' => e' = .returned (.tuple #[BV (packN f m neg s e mo).1, .int .u8 ((packN f m neg s e mo).2.1 : Nat), .int .i64 (packN f m neg s e mo).2.2]) ∧ Below w.heap.size w w' := by
  have hp := pF_113 f
  have hl4 : lenN s ≤ 384 := (lenN_le s 384).2 (by rw [show 384 = 64 * 6 from rfl, ← top6.eq_1]; exact hs)
  have cP := fun w => shapePrecision_any f w hf
  have cR := fun w => roundRight_any f m w hf hm
  have cL := fun w => wideLen_any s w hs
  have cZ := fun w => shapeZero_any f neg w hf
  by_cases hr : (decide (f < 4) && decide (m < 5)) = true
  case neg =>
    have hr' : (decide (f < 4) && decide (m < 5)) = false := by cases h : (decide (f < 4) && decide (m < 5)) <;> simp_all
    have hN : packN f m neg s e mo = (0, 0, 2) := by unfold packN packOk; rw [hr']; simp only [Bool.false_and, Bool.false_eq_true, if_false]
    rw [hN]
    rw [hr'] at cR
    exact roundPack_right f m s _ e neg mo w hp cP cR
  rw [hr] at cR
  have hf4 : f < 4 := by simp only [Bool.and_eq_true, decide_eq_true_eq] at hr; exact hr.1
  have hm5 : m < 5 := by simp only [Bool.and_eq_true, decide_eq_true_eq] at hr; exact hr.2
  by_cases he1 : e < -1048576
  · have hN : packN f m neg s e mo = (0, 0, 2) := by unfold packN packOk; rw [decide_eq_false (show ¬ -1048576 ≤ e by omega)]; simp only [Bool.and_false, Bool.false_and, Bool.false_eq_true, if_false]
    rw [hN]
    exact roundPack_low f m s _ e neg mo w hp he1 cP cR
  by_cases he2 : 1048576 < e
  · have hN : packN f m neg s e mo = (0, 0, 2) := by unfold packN packOk; rw [decide_eq_false (show ¬ e ≤ 1048576 by omega)]; simp only [Bool.and_false, Bool.false_and, Bool.false_eq_true, if_false]
    rw [hN]
    exact roundPack_high f m s _ e neg mo w hp he2 cP cR
  by_cases hmo : (mo && decide (lenN s < pF f + 2)) = true
  · have hN : packN f m neg s e mo = (0, 0, 2) := by unfold packN packOk; rw [hmo]; simp only [Bool.not_true, Bool.and_false, Bool.false_eq_true, if_false]
    rw [hN]
    have ht : mo = true := by cases mo <;> simp_all
    subst ht
    exact roundPack_more f m s (pF f) (lenN s) e neg w hp (by omega) (by omega) (by simpa using hmo) hl4 cP cR cL
  have hmo' : (mo && decide (lenN s < pF f + 2)) = false := by cases h : (mo && decide (lenN s < pF f + 2)) <;> simp_all
  have hok : packOk f m s e mo = true := by
    unfold packOk
    rw [hr, hmo', decide_eq_true (show -1048576 ≤ e by omega), decide_eq_true (show e ≤ 1048576 by omega)]; rfl
  have hl : mo = true → ¬ lenN s < pF f + 2 := by intro ht; subst ht; simpa using hmo'
  by_cases hz : s = 0
  · have hN : packN f m neg s e mo = (zeroN f neg, 0, 0) := by unfold packN; rw [if_pos hok, if_pos hz]
    rw [hN]
    cases mo with
    | false => exact roundPack_zero_f f m s (pF f) (lenN s) _ e neg w hT hp (by omega) (by omega) hl4 cP cR cL hs (decide_eq_true hz) cZ
    | true => exact roundPack_zero_t f m s (pF f) (lenN s) _ e neg w hT hp (by omega) (by omega) hl4 (hl rfl) cP cR cL hs (decide_eq_true hz) cZ
  have hN : packN f m neg s e mo = ((packB f m neg s e mo).1, (packB f m neg s e mo).2, 0) := by unfold packN; rw [if_pos hok, if_neg hz]
  rw [hN]
  have hK := formK f hf4
  have hl1 := lenN_pos s hz
  have cE := fun w => shapeEmin_any f w hf
  have cX := fun w => shapeEmax_any f w hf
  have cO := fun w => roundOver_any f m neg w hf4 hm5
  obtain ⟨top, htop⟩ : ∃ top, (lenN s : Int) - 1 + e = top := ⟨_, rfl⟩
  have hz' := decide_eq_false hz
  unfold packB
  rw [htop]
  by_cases hov : (eF f : Int) < top
  · rw [if_pos hov]
    cases mo with
    | false => exact roundPack_over_f f m s (pF f) (lenN s) (eF f) _ e top (eminI f) neg w hT hp (by omega) (by omega) hl4 cP cR cL hs hz' htop (by omega) (by omega) (by omega) (by omega) (by omega) cE cX hov cO
    | true => exact roundPack_over_t f m s (pF f) (lenN s) (eF f) _ e top (eminI f) neg w hT hp (by omega) (by omega) hl4 (hl rfl) cP cR cL hs hz' htop (by omega) (by omega) (by omega) (by omega) (by omega) cE cX hov cO
  rw [if_neg hov]
  have hat : atN f top = max top (eminI f) - (pF f : Int) + 1 := rfl
  have hk := gridN_le m s (pF f) neg mo e (atN f top) (by rw [hat]; omega)
  have cG := fun w hT => roundGrid_any m s e (atN f top) neg mo w hT hm hs (by omega) (by omega) (by rw [hat]; omega) (by rw [hat]; omega) (by rw [hat]; omega)
  have cT := fun w hT => roundTiny_any f m s e top neg mo w hT hf4 hm5 hs hz (by omega) (by omega) htop
  obtain ⟨k, ex, hg⟩ : ∃ k ex, gridN m neg s e mo (atN f top) = (k, ex) := ⟨_, _, rfl⟩
  rw [hg] at cG hk ⊢
  rw [hat] at cG
  have hk' : k ≤ 2 ^ pF f := hk
  have hkt := lt_top114 k _ hp hk'
  have hkl := lenN_le_of k _ hk'
  have cK := fun w => wideLen_any k w hkt
  by_cases hov2 : (eF f : Int) < lenN k - 1 + atN f top
  · rw [if_pos hov2]
    rw [hat] at hov2
    cases mo with
    | false => exact roundPack_over2_f f m s (pF f) (lenN s) (eF f) k (lenN k) _ e top (eminI f) neg ex w hT hp (by omega) (by omega) hl4 cP cR cL hs hz' htop (by omega) (by omega) (by omega) (by omega) (by omega) cE cX (by omega) hov hov2 cG cK cO
    | true => exact roundPack_over2_t f m s (pF f) (lenN s) (eF f) k (lenN k) _ e top (eminI f) neg ex w hT hp (by omega) (by omega) hl4 (hl rfl) cP cR cL hs hz' htop (by omega) (by omega) (by omega) (by omega) (by omega) cE cX (by omega) hov hov2 cG cK cO
  rw [if_neg hov2]
  rw [hat] at hov2
  obtain ⟨d, hd⟩ : ∃ d : Nat, d = (max top (eminI f) - eminI f).toNat := ⟨_, rfl⟩
  have hd1 : max top (eminI f) - (pF f : Int) + 1 - eminI f + (pF f : Int) - 1 = (d : Int) := by omega
  have hd2 : (atN f top - eminI f + pF f - 1).toNat = d := by rw [hat]; omega
  have hen := enc_lt f k d hf4 hk' (by omega)
  have cOf := fun w => wideOf_any d w (by omega)
  rw [← hd1] at cOf
  have cLf := fun w => wideLeft_any d ((pF f : Int) - 1) w (lt_top_bits d (by omega))
  have hcl : clip ((pF f : Int) - 1) = pF f - 1 := by unfold clip; omega
  rw [hcl] at cLf
  have cAd := fun w => wideAdd_any (d * 2 ^ (pF f - 1)) k w
  have hw : 2 ^ (wF f - 1) ≤ 2 ^ (64 * 2) := Nat.pow_le_pow_right (by decide) (by rcases forms f with rfl | rfl | rfl | rfl | h <;> first | decide | omega)
  have cB := fun w => wideToBits_any (d * 2 ^ (pF f - 1) + k) w (Nat.lt_of_lt_of_le hen hw)
  have hzn : zeroN f neg = signN f neg := by unfold zeroN; rw [decide_eq_true hf4, cond_true]
  have hor : (d * 2 ^ (pF f - 1) + k) ||| zeroN f neg = encN f neg k (atN f top) := by
    rw [hzn, or_sign f _ neg hen]; unfold encN; rw [hd2]
  have fin : ∀ fl : Value, Ending.returned (.tuple #[.agg #[.int .u64 (Go.bits .or .u64 (limb (d * 2 ^ (pF f - 1) + k) 1) (limb (zeroN f neg) 1)), .int .u64 (Go.bits .or .u64 (limb (d * 2 ^ (pF f - 1) + k) 0) (limb (zeroN f neg) 0))], fl, .int .i64 0]) = .returned (.tuple #[BV (encN f neg k (atN f top)), fl, .int .i64 0]) := by
    intro fl
    have h := pair_or (d * 2 ^ (pF f - 1) + k) (zeroN f neg)
    rw [hor] at h
    injection h with h
    rw [h]
  cases ex with
  | true =>
    simp only [cond_true]
    cases mo with
    | false =>
      refine (roundPack_x_f f m s (pF f) (lenN s) (eF f) k (lenN k) _ d _ _ _ e top (eminI f) neg _ _ _ w hT hp (by omega) (by omega) hl4 cP cR cL hs hz' htop (by omega) (by omega) (by omega) (by omega) (by omega) cE cX (by omega) hov hov2 cG cK cOf cLf cAd cB cZ).mono ?_
      intro e' w' ⟨he, hb⟩
      exact ⟨he.trans (fin _), hb⟩
    | true =>
      refine (roundPack_x_t f m s (pF f) (lenN s) (eF f) k (lenN k) _ d _ _ _ e top (eminI f) neg _ _ _ w hT hp (by omega) (by omega) hl4 (hl rfl) cP cR cL hs hz' htop (by omega) (by omega) (by omega) (by omega) (by omega) cE cX (by omega) hov hov2 cG cK cOf cLf cAd cB cZ).mono ?_
      intro e' w' ⟨he, hb⟩
      exact ⟨he.trans (fin _), hb⟩
  | false =>
    simp only [cond_false]
    cases hty : tinyB f m neg s e mo top with
    | false =>
      rw [hty] at cT
      simp only [cond_false]
      cases mo with
      | false =>
        refine (roundPack_i_f f m s (pF f) (lenN s) (eF f) k (lenN k) _ d _ _ _ e top (eminI f) neg _ _ _ w hT hp (by omega) (by omega) hl4 cP cR cL hs hz' htop (by omega) (by omega) (by omega) (by omega) (by omega) cE cX (by omega) hov hov2 cG cK cOf cLf cAd cB cZ cT).mono ?_
        intro e' w' ⟨he, hb⟩
        exact ⟨he.trans (fin _), hb⟩
      | true =>
        refine (roundPack_i_t f m s (pF f) (lenN s) (eF f) k (lenN k) _ d _ _ _ e top (eminI f) neg _ _ _ w hT hp (by omega) (by omega) hl4 (hl rfl) cP cR cL hs hz' htop (by omega) (by omega) (by omega) (by omega) (by omega) cE cX (by omega) hov hov2 cG cK cOf cLf cAd cB cZ cT).mono ?_
        intro e' w' ⟨he, hb⟩
        exact ⟨he.trans (fin _), hb⟩
    | true =>
      rw [hty] at cT
      simp only [cond_true]
      cases mo with
      | false =>
        refine (roundPack_u_f f m s (pF f) (lenN s) (eF f) k (lenN k) _ d _ _ _ e top (eminI f) neg _ _ _ w hT hp (by omega) (by omega) hl4 cP cR cL hs hz' htop (by omega) (by omega) (by omega) (by omega) (by omega) cE cX (by omega) hov hov2 cG cK cOf cLf cAd cB cZ cT).mono ?_
        intro e' w' ⟨he, hb⟩
        exact ⟨he.trans (fin _), hb⟩
      | true =>
        refine (roundPack_u_t f m s (pF f) (lenN s) (eF f) k (lenN k) _ d _ _ _ e top (eminI f) neg _ _ _ w hT hp (by omega) (by omega) hl4 (hl rfl) cP cR cL hs hz' htop (by omega) (by omega) (by omega) (by omega) (by omega) cE cX (by omega) hov hov2 cG cK cOf cLf cAd cB cZ cT).mono ?_
        intro e' w' ⟨he, hb⟩
        exact ⟨he.trans (fin _), hb⟩
/-- How many bits the dividend is moved up. -/
def divSh (f a b : Nat) : Nat := (max ((pF f : Int) + 3 + lenN (sigN f b) - lenN (sigN f a)) 0).toNat
def divR (f m a b : Nat) : Nat × Nat :=
  if (nanB (clsN f a) || nanB (clsN f b)) = true then canonR f (clsN f a) (clsN f b)
  else if (infB (clsN f a) && infB (clsN f b) || zerB (clsN f a) && zerB (clsN f b)) = true then (nanN f, 16)
  else if infB (clsN f a) = true then (infN f (belowN4 (clsN f a) != belowN4 (clsN f b)), 0)
  else if (infB (clsN f b) || zerB (clsN f a)) = true then (zeroN f (belowN4 (clsN f a) != belowN4 (clsN f b)), 0)
  else if zerB (clsN f b) = true then (infN f (belowN4 (clsN f a) != belowN4 (clsN f b)), 8)
  else packB f m (belowN4 (clsN f a) != belowN4 (clsN f b)) (sigN f a * 2 ^ divSh f a b / sigN f b) (xpN f a - xpN f b - divSh f a b) (!decide (sigN f a * 2 ^ divSh f a b % sigN f b = 0))
theorem fin_flags (f b : Nat) (h : Fin0 f b) : nanB (clsN f b) = false ∧ infB (clsN f b) = false ∧ zerB (clsN f b) = false := by
  rcases h with c | c | c | c <;> rw [c] <;> exact ⟨rfl, rfl, rfl⟩
theorem zer_flags (f b : Nat) (h : clsN f b = 3 ∨ clsN f b = 4) : nanB (clsN f b) = false ∧ infB (clsN f b) = false ∧ zerB (clsN f b) = true := by
  rcases h with c | c <;> rw [c] <;> exact ⟨rfl, rfl, rfl⟩
/-- By 1. -/
theorem div_one (f m a : Nat) (hf : f < 4) (h : fitsB f a = true) (hc : Fin0 f a ∨ clsN f a = 3 ∨ clsN f a = 4) : divR f m a (oneN f false) = (a, 0) := by
  obtain ⟨o1, o2, o3, o4⟩ := one_parts f false hf
  have ho : belowN4 (clsN f (oneN f false)) = false := by rw [o2]; rfl
  have hon : nanB (clsN f (oneN f false)) = false ∧ infB (clsN f (oneN f false)) = false ∧ zerB (clsN f (oneN f false)) = false := by rw [o2]; exact ⟨rfl, rfl, rfl⟩
  have h8 : ¬ 8 ≤ clsN f a := by unfold Fin0 at hc; omega
  have hbn := below_neg f a h8
  unfold divR
  rw [hon.1, hon.2.1, hon.2.2, ho, hbn, bne_false]
  rcases hc with hc | hc
  · obtain ⟨e1, e2, e3⟩ := fin_flags f a hc
    obtain ⟨hcan, henc⟩ := can_of f a h hc
    rw [e1, e2, e3]
    simp only [Bool.or_self, Bool.false_eq_true, if_false, Bool.and_self]
    rw [o3, o4]
    obtain ⟨h1, h2, h3, h4, h5, h6, h7, h8'⟩ := formK f hf
    have hl := (lenN_le _ _).2 hcan.lt
    have hlp := lenN_pos _ hcan.pos
    have hlo : lenN (2 ^ (pF f - 1)) = pF f := lenN_unique _ _ (Nat.le_refl _) (Nat.pow_lt_pow_right (by decide) (by omega)) (by omega)
    obtain ⟨k, hk⟩ : ∃ k, divSh f a (oneN f false) = k + (pF f - 1) := ⟨divSh f a (oneN f false) - (pF f - 1), by unfold divSh; rw [o3, hlo]; omega⟩
    rw [hk, Nat.pow_add, ← Nat.mul_assoc, Nat.mul_div_cancel _ (two_pos _), Nat.mul_mod_left, decide_eq_true rfl]
    rw [Bool.not_true, pack_exact f m (sigN f a) _ (xpN f a) _ (negN f a) hf hcan (Or.inl ⟨by omega, by rw [show (xpN f a - (xpN f a - (1 - (pF f : Int)) - ((k + (pF f - 1) : Nat) : Int))).toNat = k by omega]⟩), henc]
  · obtain ⟨e1, e2, e3⟩ := zer_flags f a hc
    rw [e1, e2, e3]
    simp only [Bool.or_self, Bool.false_eq_true, if_false, Bool.and_self, Bool.and_false, Bool.or_true, if_true]
    rw [zero_of f a h hc]
theorem or_one (a : Nat) : a ||| 1 = a / 2 * 2 + 1 := by
  have h1 : a = 2 * (a / 2) + a % 2 := (Nat.div_add_mod a 2).symm
  have h2 : a / 2 * 2 ||| 1 = a / 2 * 2 + 1 := by
    have := Nat.two_pow_add_eq_or_of_lt (i := 1) (b := 1) (by decide) (a / 2)
    rw [Nat.pow_one, Nat.mul_comm] at this; exact this.symm
  have : a % 2 = 0 ∨ a % 2 = 1 := by omega
  rcases this with h | h
  · have e : a / 2 * 2 = a := by omega
    rw [← h2, e]
  · have e : a = a / 2 * 2 + 1 := by omega
    rw [← h2]
    conv => lhs; rw [e, ← h2]
    rw [Nat.or_assoc, Nat.or_self]
theorem or_one_div (a n : Nat) (hn : 1 ≤ n) : (a ||| 1) / 2 ^ n = a / 2 ^ n := by
  obtain ⟨k, rfl⟩ : ∃ k, n = k + 1 := ⟨n - 1, by omega⟩
  rw [or_one, Nat.pow_succ, Nat.mul_comm (2 ^ k), ← Nat.div_div_eq_div_mul, ← Nat.div_div_eq_div_mul]
  rw [show (a / 2 * 2 + 1) / 2 = a / 2 by omega]
theorem or_one_mod (a n : Nat) (hn : 1 ≤ n) : (a ||| 1) % 2 ^ n = a % 2 ^ n ||| 1 := by
  have h1 := Nat.div_add_mod (a ||| 1) (2 ^ n)
  have h2 := Nat.div_add_mod a (2 ^ n)
  rw [or_one_div a n hn] at h1
  rw [or_one] at h1 ⊢
  rw [or_one]
  obtain ⟨k, rfl⟩ : ∃ k, n = k + 1 := ⟨n - 1, by omega⟩
  have hm : a % 2 ^ (k + 1) / 2 * 2 + a % 2 = a % 2 ^ (k + 1) := by
    have : a % 2 ^ (k + 1) % 2 = a % 2 := Nat.mod_mod_of_dvd a (by rw [Nat.pow_succ]; exact Nat.dvd_mul_left _ _)
    omega
  omega
/-- What was lost, kept as one bit. -/
theorem pack_sticky (f m : Nat) (neg : Bool) (s : Nat) (e : Int) (hf : f < 4) (hl : pF f + 2 ≤ lenN s) :
    packB f m neg s e true = packB f m neg (s ||| 1) e false := by
  obtain ⟨h1, h2, h3, h4, h5, h6, h7, h8⟩ := formK f hf
  have hs0 : s ≠ 0 := by intro h; rw [h, lenN_zero] at hl; omega
  have hlen : lenN (s ||| 1) = lenN s := by
    have hge := lenN_ge s hs0
    have hlt := lenN_lt s
    obtain ⟨k, hk⟩ : ∃ k, lenN s = k + 2 := ⟨lenN s - 2, by omega⟩
    rw [hk] at hge hlt ⊢
    rw [show k + 2 - 1 = k + 1 by omega, Nat.pow_succ] at hge
    rw [show 2 ^ (k + 2) = 2 ^ (k + 1) * 2 from Nat.pow_succ _ _, Nat.pow_succ] at hlt
    apply lenN_unique
    · rw [show k + 2 - 1 = k + 1 by omega, Nat.pow_succ, or_one]; omega
    · rw [show 2 ^ (k + 2) = 2 ^ (k + 1) * 2 from Nat.pow_succ _ _, Nat.pow_succ, or_one]; omega
    · omega
  have hg : ∀ at_ : Int, e + 2 ≤ at_ → gridN m neg s e true at_ = gridN m neg (s ||| 1) e false at_ := by
    intro at_ hat
    obtain ⟨n, hn⟩ : ∃ n, (at_ - e).toNat = n := ⟨_, rfl⟩
    obtain ⟨k, rfl⟩ : ∃ k, n = k + 2 := ⟨n - 2, by omega⟩
    unfold gridN
    rw [if_neg (by omega), if_neg (by omega), hn, or_one_div s _ (by omega)]
    have hmod := or_one_mod s (k + 2) (by omega)
    have hex : (decide ((s ||| 1) % 2 ^ (k + 2) = 0) && !false) = (decide (s % 2 ^ (k + 2) = 0) && !true) := by
      rw [hmod, or_one]; simp
    have hhalf : (cond (false && decide (halfN (s ||| 1) (k + 2) = 0)) 1 (halfN (s ||| 1) (k + 2)) : Int) = cond (true && decide (halfN s (k + 2) = 0)) 1 (halfN s (k + 2)) := by
      rw [Bool.false_and, Bool.true_and]
      show halfN (s ||| 1) (k + 1 + 1) = cond (decide (halfN s (k + 1 + 1) = 0)) 1 (halfN s (k + 1 + 1))
      rw [halfN_pos, halfN_pos, show k + 1 + 1 = k + 2 from rfl, hmod, or_one]
      have hev : 2 ^ (k + 1) = 2 * 2 ^ k := by rw [Nat.pow_succ, Nat.mul_comm]
      generalize s % 2 ^ (k + 2) = x
      rw [hev]
      generalize 2 ^ k = y
      rcases Nat.lt_trichotomy x (2 * y) with h | h | h
      · rw [if_pos (by omega : x < 2 * y), if_pos (by omega)]; rfl
      · rw [if_neg (by omega : ¬ x < 2 * y), if_pos h, if_neg (by omega), if_neg (by omega)]; rfl
      · rw [if_neg (by omega : ¬ x < 2 * y), if_neg (by omega : ¬ x = 2 * y), if_neg (by omega), if_neg (by omega)]; rfl
    rw [hhalf, hex]
  unfold packB tinyB
  rw [hlen, hg _ (by unfold atN; omega), hg _ (by omega)]
/-- A shift to the right, what is lost kept as one bit. -/
def jamN (y k : Nat) : Nat := if y % 2 ^ k = 0 then y / 2 ^ k else y / 2 ^ k ||| 1
theorem pack_shift (f m : Nat) (neg : Bool) (s k : Nat) (e : Int) (h0 : s ≠ 0) : packB f m neg (s * 2 ^ k) (e - k) false = packB f m neg s e false := by
  symm
  exact pack_finer ⟨by omega, by rw [show (e - (e - (k : Int))).toNat = k by omega, Nat.mul_div_cancel _ (two_pos _)], by rw [show (e - (e - (k : Int))).toNat = k by omega, Nat.mul_mod_left]; rfl⟩ f m neg h0 (fun h => by cases h)
theorem jam_plus (f m : Nat) (neg : Bool) (S y k : Nat) (e : Int) (hf : f < 4) (h0 : S + jamN y k ≠ 0) (hev : y % 2 ^ k ≠ 0 → S % 2 = 0 ∧ pF f + 2 ≤ lenN (S + y / 2 ^ k)) :
    packB f m neg (S + jamN y k) e false = packB f m neg (S * 2 ^ k + y) (e - k) false := by
  have hk : (e - (e - (k : Int))).toNat = k := by omega
  by_cases hz : y % 2 ^ k = 0
  · unfold jamN at h0 ⊢
    rw [if_pos hz] at h0 ⊢
    rw [← pack_shift f m neg _ k e h0, Nat.add_mul, Nat.div_mul_cancel (Nat.dvd_of_mod_eq_zero hz)]
  · obtain ⟨hs, hl⟩ := hev hz
    unfold jamN
    rw [if_neg hz]
    have e1 : S + (y / 2 ^ k ||| 1) = (S + y / 2 ^ k) ||| 1 := by rw [or_one, or_one]; omega
    rw [e1, ← pack_sticky f m neg _ e hf hl]
    refine pack_finer ⟨by omega, ?_, ?_⟩ f m neg (by intro h; rw [h, lenN_zero] at hl; omega) (fun _ => hl)
    · rw [hk, Nat.mul_comm S, Nat.mul_add_div (two_pos k)]
    · rw [hk, Nat.mul_comm S, Nat.mul_add_mod, decide_eq_false hz]; rfl
theorem jam_minus (f m : Nat) (neg : Bool) (S y k : Nat) (e : Int) (hf : f < 4) (h0 : jamN y k < S) (hev : y % 2 ^ k ≠ 0 → S % 2 = 0 ∧ pF f + 2 ≤ lenN (S - y / 2 ^ k - 1)) :
    packB f m neg (S - jamN y k) e false = packB f m neg (S * 2 ^ k - y) (e - k) false ∧ y < S * 2 ^ k := by
  have hk : (e - (e - (k : Int))).toNat = k := by omega
  have hdm := Nat.div_add_mod y (2 ^ k)
  have hml := Nat.mod_lt y (two_pos k)
  by_cases hz : y % 2 ^ k = 0
  · unfold jamN at h0 ⊢
    rw [if_pos hz] at h0 ⊢
    have hy : y / 2 ^ k * 2 ^ k = y := Nat.div_mul_cancel (Nat.dvd_of_mod_eq_zero hz)
    have hlt : y < S * 2 ^ k := by have := (Nat.mul_lt_mul_right (two_pos k)).2 h0; omega
    refine ⟨?_, hlt⟩
    rw [← pack_shift f m neg _ k e (by omega), Nat.sub_mul, hy]
  · obtain ⟨hs, hl⟩ := hev hz
    unfold jamN at h0 ⊢
    rw [if_neg hz] at h0 ⊢
    rw [or_one] at h0
    have hS : y / 2 ^ k + 1 ≤ S := by omega
    have hsplit : S * 2 ^ k - y = (S - y / 2 ^ k - 1) * 2 ^ k + (2 ^ k - y % 2 ^ k) ∧ y < S * 2 ^ k := by
      obtain ⟨r, hr⟩ : ∃ r, S = y / 2 ^ k + 1 + r := ⟨S - (y / 2 ^ k + 1), by omega⟩
      rw [show S - y / 2 ^ k - 1 = r by omega, hr, Nat.add_mul, Nat.add_mul, Nat.one_mul, Nat.mul_comm (y / 2 ^ k)]
      omega
    refine ⟨?_, hsplit.2⟩
    have e1 : S - (y / 2 ^ k ||| 1) = (S - y / 2 ^ k - 1) ||| 1 := by rw [or_one, or_one]; omega
    rw [e1, ← pack_sticky f m neg _ e hf hl, hsplit.1]
    have hr : 2 ^ k - y % 2 ^ k < 2 ^ k := by omega
    refine pack_finer ⟨by omega, ?_, ?_⟩ f m neg (by intro h; rw [h, lenN_zero] at hl; omega) (fun _ => hl)
    · rw [hk, Nat.mul_comm (S - y / 2 ^ k - 1), Nat.mul_add_div (two_pos k), Nat.div_eq_of_lt hr, Nat.add_zero]
    · rw [hk, Nat.mul_comm (S - y / 2 ^ k - 1), Nat.mul_add_mod, Nat.mod_eq_of_lt hr, decide_eq_false (by omega)]; rfl
open Go.RowKit
theorem limbN_pow (i j : Nat) : limbN (2 ^ i) j = if j = i / 64 then 2 ^ (i % 64) else 0 := by
  have h64 : 2 ^ (i % 64) < 18446744073709551616 := by rw [B64]; exact Nat.pow_lt_pow_right (by decide) (Nat.mod_lt _ (by decide))
  have hp : 2 ^ i = 0 + 2 ^ (i % 64) * 2 ^ (64 * (i / 64)) := by
    rw [Nat.zero_add, ← Nat.pow_add]; congr 1; omega
  have := limbN_put 0 (2 ^ (i % 64)) (i / 64) j (pw_pos _) h64
  rw [← hp] at this
  rw [this]
  have h0 : limbN 0 j = 0 := by unfold limbN; rw [Nat.zero_div]
  rw [h0]
/-- A bit set. -/
theorem limbs_or_bit (q i : Nat) (hi : i < 384) : (limbs q).setIfInBounds (i / 64) (.int .u64 (Go.bits .or .u64 (limb q (i / 64)) ((2 ^ (i % 64) : Nat) : Int))) = limbs (q ||| 2 ^ i) := by
  have key : ∀ j, limb (q ||| 2 ^ i) j = if j = i / 64 then Go.bits .or .u64 (limb q (i / 64)) ((2 ^ (i % 64) : Nat) : Int) else limb q j := by
    intro j
    rw [← limb_or]
    unfold limb
    rw [limbN_pow i j]
    split
    · rename_i h; rw [h]
    · rw [u64_or_nat _ _ (limbN_lt q j) (by decide), Nat.or_zero]
  apply Array.ext_getElem?
  intro j
  by_cases hj : j < 6
  · rw [limbs_get _ j hj, Array.getElem?_setIfInBounds, key j]
    by_cases h : i / 64 = j
    · rw [if_pos h, if_pos (by rw [limbs_size]; omega), if_pos h.symm]
    · rw [if_neg h, if_neg (fun e => h e.symm)]; exact limbs_get q j hj
  · rw [Array.getElem?_eq_none (by rw [Array.size_setIfInBounds, limbs_size]; omega), Array.getElem?_eq_none (by rw [limbs_size]; omega)]
theorem limbs_or1 (x : Nat) : (limbs x).setIfInBounds 0 (.int .u64 (Go.bits .or .u64 (limb x 0) 1)) = limbs (x ||| 1) := limbs_or_bit x 0 (by decide)
theorem set_or1 (x : Nat) : setRow (limbs x) 0 (#[.int .u64 (Go.bits .or .u64 (limb x 0) 1)] : Array Value).toList = limbs (x ||| 1) := limbs_or1 x
/-- The exact sum of two numbers, rounded. -/
def sumX (f m : Nat) (nx : Bool) (sx : Nat) (ex : Int) (ny : Bool) (sy : Nat) (ey : Int) : Nat × Nat :=
  if nx = ny then packB f m nx (sx * 2 ^ (ex - min ex ey).toNat + sy * 2 ^ (ey - min ex ey).toNat) (min ex ey) false
  else if sx * 2 ^ (ex - min ex ey).toNat = sy * 2 ^ (ey - min ex ey).toNat then (zeroN f (decide (m = 2)), 0)
  else if sy * 2 ^ (ey - min ex ey).toNat < sx * 2 ^ (ex - min ex ey).toNat then packB f m nx (sx * 2 ^ (ex - min ex ey).toNat - sy * 2 ^ (ey - min ex ey).toNat) (min ex ey) false
  else packB f m ny (sy * 2 ^ (ey - min ex ey).toNat - sx * 2 ^ (ex - min ex ey).toNat) (min ex ey) false
theorem sumX_swap (f m : Nat) (nx : Bool) (sx : Nat) (ex : Int) (ny : Bool) (sy : Nat) (ey : Int) : sumX f m nx sx ex ny sy ey = sumX f m ny sy ey nx sx ex := by
  unfold sumX
  rw [Int.min_comm ey ex]
  generalize sx * 2 ^ (ex - min ex ey).toNat = X
  generalize sy * 2 ^ (ey - min ex ey).toNat = Y
  by_cases h : nx = ny
  · rw [if_pos h, if_pos h.symm, h, Nat.add_comm]
  · rw [if_neg h, if_neg (show ¬ ny = nx from fun e => h e.symm)]
    rcases Nat.lt_trichotomy X Y with h1 | h1 | h1
    · rw [if_neg (show ¬ X = Y by omega), if_neg (show ¬ Y < X by omega), if_neg (show ¬ Y = X by omega), if_pos h1]
    · rw [if_pos h1, if_pos h1.symm]
    · rw [if_neg (show ¬ X = Y by omega), if_pos h1, if_neg (show ¬ Y = X by omega), if_neg (show ¬ X < Y by omega)]
/-- The sum as it is reckoned: one number S, in steps of 2^e, the other one moved down by k, what is lost kept as one bit. -/
def sumJ (f m : Nat) (nx : Bool) (S : Nat) (ny : Bool) (t : Nat) (e : Int) : Nat × Nat :=
  if nx = ny then packB f m nx (S + t) e false
  else if S = t then (zeroN f (decide (m = 2)), 0)
  else if t < S then packB f m nx (S - t) e false
  else packB f m ny (t - S) e false
theorem sumJ_eq (f m : Nat) (nx : Bool) (S : Nat) (ny : Bool) (y k : Nat) (e : Int) (hf : f < 4) (hS : S ≠ 0) (hy : y ≠ 0)
    (hev : y % 2 ^ k ≠ 0 → S % 2 = 0 ∧ pF f + 2 ≤ lenN (S - y / 2 ^ k - 1) ∧ y / 2 ^ k + 1 < S) :
    sumJ f m nx S ny (jamN y k) e = sumX f m nx (S * 2 ^ k) (e - k) ny y (e - k) := by
  have hz0 : (e - (k : Int) - min (e - k) (e - k)).toNat = 0 := by omega
  have hmin : min (e - (k : Int)) (e - k) = e - k := by omega
  have hdm := Nat.div_add_mod y (2 ^ k)
  have hml := Nat.mod_lt y (two_pos k)
  have hlen : ∀ a b : Nat, a ≤ b → lenN a ≤ lenN b := fun a b h => (lenN_le a _).2 (Nat.lt_of_le_of_lt h (lenN_lt b))
  unfold sumJ sumX
  rw [hz0, hmin, Nat.pow_zero, Nat.mul_one, Nat.mul_one]
  by_cases hn : nx = ny
  · rw [if_pos hn, if_pos hn]
    exact jam_plus f m nx S y k e hf (by omega) (fun h => ⟨(hev h).1, Nat.le_trans (hev h).2.1 (hlen _ _ (Nat.le_trans (Nat.sub_le _ _) (Nat.le_trans (Nat.sub_le _ _) (Nat.le_add_right _ _))))⟩)
  · rw [if_neg hn, if_neg hn]
    by_cases hz : y % 2 ^ k = 0
    · have hj : jamN y k = y / 2 ^ k := by unfold jamN; rw [if_pos hz]
      have hyk : jamN y k * 2 ^ k = y := by rw [hj]; exact Nat.div_mul_cancel (Nat.dvd_of_mod_eq_zero hz)
      rcases Nat.lt_trichotomy S (jamN y k) with h | h | h
      · have := (Nat.mul_lt_mul_right (two_pos k)).2 h
        rw [hyk] at this
        rw [if_neg (by omega), if_neg (by omega), if_neg (by omega), if_neg (by omega)]
        rw [← pack_shift f m ny _ k e (by omega), Nat.sub_mul, hyk]
      · rw [if_pos h, if_pos (by rw [h, hyk])]
      · have := jam_minus f m nx S y k e hf h (fun h' => absurd hz h')
        rw [if_neg (by omega), if_pos h, if_neg (by omega), if_pos this.2]
        exact this.1
    · obtain ⟨h1, h2, h3⟩ := hev hz
      have hj : jamN y k < S := by unfold jamN; rw [if_neg hz, or_one]; omega
      have := jam_minus f m nx S y k e hf hj (fun _ => ⟨h1, h2⟩)
      rw [if_neg (by omega), if_pos hj, if_neg (by omega), if_pos this.2]
      exact this.1
/-- The sum hangs on the numbers alone. -/
theorem sumX_scale (f m : Nat) (nx : Bool) (sx : Nat) (ex : Int) (ny : Bool) (sy : Nat) (ey : Int) (e : Int) (he : e ≤ min ex ey) (hx : sx ≠ 0) (hy : sy ≠ 0) :
    sumX f m nx (sx * 2 ^ (ex - e).toNat) e ny (sy * 2 ^ (ey - e).toNat) e = sumX f m nx sx ex ny sy ey := by
  obtain ⟨d, hd⟩ : ∃ d : Nat, (d : Int) = min ex ey - e := ⟨(min ex ey - e).toNat, by omega⟩
  have e1 : (ex - e).toNat = (ex - min ex ey).toNat + d := by omega
  have e2 : (ey - e).toNat = (ey - min ex ey).toNat + d := by omega
  have hz0 : (e - min e e).toNat = 0 := by omega
  have hmin : min e e = e := by omega
  have hee : e = min ex ey - (d : Int) := by omega
  unfold sumX
  rw [hz0, hmin, Nat.pow_zero, Nat.mul_one, Nat.mul_one, e1, e2, Nat.pow_add, Nat.pow_add, ← Nat.mul_assoc, ← Nat.mul_assoc]
  have hX : sx * 2 ^ (ex - min ex ey).toNat ≠ 0 := fun h => by rcases Nat.mul_eq_zero.1 h with h | h; exact hx h; exact absurd h (Nat.ne_of_gt (two_pos _))
  have hY : sy * 2 ^ (ey - min ex ey).toNat ≠ 0 := fun h => by rcases Nat.mul_eq_zero.1 h with h | h; exact hy h; exact absurd h (Nat.ne_of_gt (two_pos _))
  generalize sx * 2 ^ (ex - min ex ey).toNat = X at *
  generalize sy * 2 ^ (ey - min ex ey).toNat = Y at *
  rw [hee]
  by_cases hn : nx = ny
  · rw [if_pos hn, if_pos hn, ← Nat.add_mul, pack_shift f m nx _ d _ (by omega)]
  · rw [if_neg hn, if_neg hn]
    rcases Nat.lt_trichotomy X Y with h | h | h
    · have := (Nat.mul_lt_mul_right (two_pos d)).2 h
      rw [if_neg (by omega), if_neg (by omega), if_neg (by omega), if_neg (by omega), ← Nat.sub_mul, pack_shift f m ny _ d _ (by omega)]
    · rw [if_pos (by rw [h]), if_pos h]
    · have := (Nat.mul_lt_mul_right (two_pos d)).2 h
      rw [if_neg (by omega), if_pos (by omega), if_neg (by omega), if_pos h, ← Nat.sub_mul, pack_shift f m nx _ d _ (by omega)]
/-- The sum as add.Add reckons it. -/
def addUp (ex ey : Int) : Nat := (min (ex - ey) 200).toNat
theorem add_core (f m : Nat) (nx : Bool) (sx : Nat) (ex : Int) (ny : Bool) (sy : Nat) (ey : Int) (hf : f < 4) (hx : sx ≠ 0) (hy : sy ≠ 0) (hyl : sy < 2 ^ 113) (hle : ey ≤ ex) :
    sumJ f m nx (sx * 2 ^ addUp ex ey * 2 ^ 2) ny (jamN (sy * 2 ^ 2) (ex - addUp ex ey - ey).toNat) (ex - addUp ex ey - 2) = sumX f m nx sx ex ny sy ey := by
  obtain ⟨h1, h2, h3, h4, h5, h6, h7, h8⟩ := formK f hf
  obtain ⟨u, hu⟩ : ∃ u, addUp ex ey = u := ⟨_, rfl⟩
  have hu2 : (u : Int) = min (ex - ey) 200 := by rw [← hu]; unfold addUp; omega
  rw [hu]
  obtain ⟨k, hk⟩ : ∃ k, (ex - (u : Int) - ey).toNat = k := ⟨_, rfl⟩
  rw [hk]
  have hS : sx * 2 ^ u * 2 ^ 2 ≠ 0 := by
    have := Nat.pos_of_ne_zero hx
    exact Nat.ne_of_gt (Nat.mul_pos (Nat.mul_pos this (two_pos _)) (by decide))
  rw [sumJ_eq f m nx _ ny _ k _ hf hS (by omega) ?_]
  · rw [← sumX_scale f m nx sx ex ny sy ey (ex - u - 2 - k) (by omega) hx hy]
    have e1 : sx * 2 ^ u * 2 ^ 2 * 2 ^ k = sx * 2 ^ (ex - (ex - (u : Int) - 2 - k)).toNat := by
      rw [Nat.mul_assoc, Nat.mul_assoc, ← Nat.pow_add, ← Nat.pow_add, show (ex - (ex - (u : Int) - 2 - k)).toNat = u + (2 + k) by omega]
    have e2 : sy * 2 ^ 2 = sy * 2 ^ (ey - (ex - (u : Int) - 2 - k)).toNat := by
      rw [show (ey - (ex - (u : Int) - 2 - k)).toNat = 2 by omega]
    rw [e1, ← e2]
  · intro hlost
    have hkpos : 1 ≤ k := by
      rcases Nat.eq_zero_or_pos k with h | h
      · rw [h, Nat.pow_zero, Nat.mod_one] at hlost; exact absurd rfl hlost
      · exact h
    have hu200 : u = 200 := by omega
    subst hu200
    have hbig : 2 ^ 200 ≤ sx * 2 ^ 200 := Nat.le_mul_of_pos_left _ (Nat.pos_of_ne_zero hx)
    have hT : sy * 2 ^ 2 / 2 ^ k ≤ sy * 2 ^ 2 := Nat.div_le_self _ _
    have hyb : sy * 2 ^ 2 < 2 ^ 115 := by rw [show 115 = 113 + 2 from rfl, Nat.pow_add]; exact (Nat.mul_lt_mul_right (by decide)).2 hyl
    generalize sy * 2 ^ 2 / 2 ^ k = T at *
    generalize sx * 2 ^ 200 = Z at *
    refine ⟨by omega, ?_, by omega⟩
    rcases Nat.lt_or_ge (lenN (Z * 2 ^ 2 - T - 1)) 116 with h | h
    · have := (lenN_le (Z * 2 ^ 2 - T - 1) 115).1 (by omega)
      omega
    · omega
def addR (f m a b : Nat) : Nat × Nat :=
  if (nanB (clsN f a) || nanB (clsN f b)) = true then canonR f (clsN f a) (clsN f b)
  else if (infB (clsN f a) && infB (clsN f b) && !decide (clsN f a = clsN f b)) = true then (nanN f, 16)
  else if infB (clsN f a) = true then (a, 0)
  else if infB (clsN f b) = true then (b, 0)
  else if (zerB (clsN f a) && zerB (clsN f b)) = true then (if clsN f a = clsN f b then (a, 0) else (zeroN f (decide (m = 2)), 0))
  else if zerB (clsN f a) = true then (b, 0)
  else if zerB (clsN f b) = true then (a, 0)
  else sumX f m (belowN4 (clsN f a)) (sigN f a) (xpN f a) (belowN4 (clsN f b)) (sigN f b) (xpN f b)
def addN (f m a b : Nat) : Nat × Nat × Int := cond (binOk f m a b) ((addR f m a b).1, (addR f m a b).2, 0) (0, 0, 2)
/-- A zero of the own sign. -/
theorem add_zero (f m a : Nat) (hf : f < 4) (hc : Fin0 f a ∨ clsN f a = 3 ∨ clsN f a = 4) : addR f m a (zeroN f (negN f a)) = (a, 0) := by
  obtain ⟨z1, z2⟩ := zero_parts f (negN f a) hf
  have hz : clsN f (zeroN f (negN f a)) = 3 ∨ clsN f (zeroN f (negN f a)) = 4 := by rw [z2]; cases negN f a <;> simp
  obtain ⟨b1, b2, b3⟩ := zer_flags f _ hz
  unfold addR
  rw [b1, b2, b3]
  rcases hc with hc | hc
  · obtain ⟨a1, a2, a3⟩ := fin_flags f a hc
    rw [a1, a2, a3]; simp
  · obtain ⟨a1, a2, a3⟩ := zer_flags f a hc
    have he : clsN f a = clsN f (zeroN f (negN f a)) := by
      rw [z2, ← below_neg f a (by omega)]; unfold belowN4; rcases hc with h | h <;> rw [h] <;> rfl
    rw [a1, a2, a3, if_pos he]; simp
def subR (f m a b : Nat) : Nat × Nat := addR f m a (flipN f b)
def subA (f m a b : Nat) : Nat × Nat × Int := cond (fitsB f b) (addN f m a (flipN f b)) (0, 0, 2)
/-- The sign bit put on. -/
theorem with_sign (f x : Nat) (neg : Bool) (hf : f < 4) (hx : x < 2 ^ (wF f - 1)) : fitsB f (x + signN f neg) = true ∧ negN f (x + signN f neg) = neg := by
  obtain ⟨h1, h2, -⟩ := formK f hf
  have := fields_mk (wF f - 1) 0 x 0 neg hx (by decide)
  rw [Nat.zero_mul, Nat.zero_add, Nat.add_zero] at this
  refine ⟨(fits_iff _ _).2 ⟨hf, ?_⟩, this.2.2.1⟩
  have h4 := this.2.2.2
  rw [show wF f - 1 + 1 = wF f by omega] at h4
  exact h4
theorem great_mk (f : Nat) (neg : Bool) (hf : f < 4) : greatN f neg = mkN f neg (2 * eF f) (2 ^ (pF f - 1) - 1) := by
  unfold greatN mkN
  rw [decide_eq_true hf, cond_true, Nat.add_mul]
  have := two_pos (pF f - 1)
  omega
theorem over_sign (f m : Nat) (neg : Bool) (hf : f < 4) : fitsB f (overN f m neg) = true ∧ negN f (overN f m neg) = neg := by
  have hp := two_pos (pF f - 1)
  unfold overN
  cases overB m neg
  · rw [cond_false, infN_mk f neg hf]
    obtain ⟨m1, m2, m3, m4⟩ := mkN_fields f hf neg (2 * eF f + 1) 0 hp (by omega)
    exact ⟨m4, m3⟩
  · rw [cond_true, great_mk f neg hf]
    obtain ⟨m1, m2, m3, m4⟩ := mkN_fields f hf neg (2 * eF f) (2 ^ (pF f - 1) - 1) (by omega) (by omega)
    exact ⟨m4, m3⟩
/-- What is delivered has the sign that was asked for. -/
theorem pack_sign (f m : Nat) (neg : Bool) (s : Nat) (e : Int) (mo : Bool) (hf : f < 4) (hs : s ≠ 0) : fitsB f (packB f m neg s e mo).1 = true ∧ negN f (packB f m neg s e mo).1 = neg := by
  obtain ⟨h1, h2, h3, h4, h5, h6, h7, h8⟩ := formK f hf
  have hl := lenN_pos s hs
  unfold packB
  split
  · exact over_sign f m neg hf
  · rename_i hov
    split
    · exact over_sign f m neg hf
    · simp only []
      have hat : atN f (lenN s - 1 + e) = max ((lenN s : Int) - 1 + e) (eminI f) - (pF f : Int) + 1 := rfl
      have hk := gridN_le m s (pF f) neg mo e (atN f (lenN s - 1 + e)) (by rw [hat]; omega)
      unfold encN
      exact with_sign f _ neg hf (enc_lt f _ _ hf hk (by rw [hat]; omega))
theorem flip_parts (f a : Nat) (h : fitsB f a = true) (hc : Fin0 f a) : fitsB f (flipN f a) = true ∧ negN f (flipN f a) = (!negN f a) ∧ sigN f (flipN f a) = sigN f a ∧ xpN f (flipN f a) = xpN f a ∧ Fin0 f (flipN f a) := by
  obtain ⟨hf, -⟩ := (fits_iff f a).1 h
  have h1 := (can_of f a h hc).1
  have h2 : flipN f a = encN f (!negN f a) (sigN f a) (xpN f a) := by
    rw [fin_sign f a h hc]; unfold flipN; rw [h]; rfl
  rw [h2]
  exact enc_can f _ _ _ hf h1
theorem sub_fin (f m a b : Nat) (ha : fitsB f a = true) (hb : fitsB f b = true) (ca : Fin0 f a) (cb : Fin0 f b) (na : negN f a = false) (nb : negN f b = false) :
    subR f m a b = sumX f m false (sigN f a) (xpN f a) true (sigN f b) (xpN f b) := by
  obtain ⟨f1, f2, f3, f4, f5⟩ := flip_parts f b hb cb
  obtain ⟨a1, a2, a3⟩ := fin_flags f a ca
  obtain ⟨b1, b2, b3⟩ := fin_flags f _ f5
  unfold subR addR
  rw [a1, a2, a3, b1, b2, b3, below_neg f a (fin_cls f a ca).1, below_neg f _ (fin_cls f _ f5).1, na, f2, nb, f3, f4]
  simp
/-- A difference that is below 0 has the sign. -/
theorem sumX_below (f m : Nat) (sx : Nat) (ex : Int) (sy : Nat) (ey : Int) (hf : f < 4) (h : sx * 2 ^ (ex - min ex ey).toNat < sy * 2 ^ (ey - min ex ey).toNat) : negN f (sumX f m false sx ex true sy ey).1 = true := by
  unfold sumX
  rw [if_neg (by decide), if_neg (by omega), if_neg (by omega)]
  exact (pack_sign f m true _ _ false hf (by omega)).2
/-- Twice a number, towards 0: a number of the format that is not above it. -/
theorem two_of (f s : Nat) (e : Int) (hf : f < 4) (h : Can f s e) : ∃ c q, Can f c q ∧ (packB f 1 false (s + s) e false).1 = encN f false c q ∧
    ∀ e0 : Int, e0 ≤ q → e0 ≤ e → c * 2 ^ (q - e0).toNat ≤ (s + s) * 2 ^ (e - e0).toNat := by
  obtain ⟨h1, h2, h3, h4, h5, h6, h7, h8⟩ := formK f hf
  have hp := pow_pred f hf
  have hpos := h.pos
  have hlt := h.lt
  have hge := h.ge
  have hle := h.le
  by_cases hn : 2 ^ (pF f - 1) ≤ s
  · have hl : lenN s = pF f := lenN_unique s (pF f) hn hlt (by omega)
    by_cases ho : e + pF f ≤ eF f
    · have hc : Can f s (e + 1) := ⟨hpos, hlt, by omega, by omega, Or.inl hn⟩
      refine ⟨s, e + 1, hc, ?_, ?_⟩
      · rw [pack_exact f 1 s (s + s) (e + 1) e false hf hc (Or.inl ⟨by omega, by rw [show (e + 1 - e).toNat = 1 by omega, Nat.pow_one]; omega⟩)]
      · intro e0 _ h0
        rw [show (e + 1 - e0).toNat = (e - e0).toNat + 1 by omega, Nat.pow_succ, ← Nat.mul_assoc, Nat.add_mul]; omega
    · have hq : e = eF f - pF f + 1 := by omega
      have hc : Can f (2 ^ pF f - 1) e := ⟨by omega, by omega, by omega, by omega, Or.inl (by have := two_pos (pF f - 1); omega)⟩
      refine ⟨2 ^ pF f - 1, e, hc, ?_, ?_⟩
      · have hl2 : lenN (s + s) = pF f + 1 := by
          have := lenN_mul s 1 hpos
          rw [Nat.pow_one, Nat.mul_two] at this
          omega
        unfold packB
        rw [hl2, if_pos (by omega)]
        show overN f 1 false = _
        unfold overN
        rw [show overB 1 false = true from rfl, cond_true]
        unfold greatN encN
        rw [decide_eq_true hf, cond_true]
        obtain ⟨d, hd⟩ : ∃ d : Nat, (e - eminI f + (pF f : Int) - 1).toNat = d ∧ 2 * eF f + 1 = d + 2 := ⟨2 * eF f - 1, by omega, by omega⟩
        rw [hd.1, hd.2, Nat.add_mul]
        omega
      · intro e0 _ h0
        exact Nat.mul_le_mul_right _ (by omega)
  · have hq : e = eminI f - pF f + 1 := h.norm.resolve_left hn
    have hc : Can f (s + s) e := ⟨by omega, by omega, by omega, by omega, Or.inr hq⟩
    refine ⟨s + s, e, hc, ?_, ?_⟩
    · rw [pack_can f 1 (s + s) e false hf hc]
    · intro e0 _ h0
      exact Nat.le_refl _
/-- Of two numbers of which each is at most twice the other one. -/
theorem near_exact (f m : Nat) (sx : Nat) (ex : Int) (sy : Nat) (ey : Int) (hf : f < 4) (hx : Can f sx ex) (hy : Can f sy ey)
    (h1 : sy * 2 ^ (ey - min ex ey).toNat ≤ (sx + sx) * 2 ^ (ex - min ex ey).toNat) (h2 : sx * 2 ^ (ex - min ex ey).toNat ≤ (sy + sy) * 2 ^ (ey - min ex ey).toNat) : (sumX f m false sx ex true sy ey).2 = 0 := by
  obtain ⟨g1, g2, g3, g4, g5, g6, g7, g8⟩ := formK f hf
  have key : ∀ (D : Nat) (neg : Bool), D ≠ 0 → D < 2 ^ pF f → (packB f m neg D (min ex ey) false).2 = 0 := by
    intro D neg hD hlt
    have hl := lenN_pos D hD
    have hl2 := (lenN_le D (pF f)).2 hlt
    have x1 := hx.ge
    have x2 := hx.le
    have y1 := hy.ge
    have y2 := hy.le
    have hat : atN f (lenN D - 1 + min ex ey) = max ((lenN D : Int) - 1 + min ex ey) (eminI f) - (pF f : Int) + 1 := rfl
    have hc := can_mk f D (min ex ey) hf hD (by rw [hat]; omega) (by omega)
    rw [pack_exact f m _ D _ (min ex ey) neg hf hc (Or.inr ⟨by rw [hat]; omega, rfl⟩)]
  have xl := hx.lt
  have yl := hy.lt
  have hmin : (sx * 2 ^ (ex - min ex ey).toNat < 2 ^ pF f) ∨ (sy * 2 ^ (ey - min ex ey).toNat < 2 ^ pF f) := by
    rcases Int.le_total ex ey with h | h
    · left; rw [show (ex - min ex ey).toNat = 0 by omega, Nat.pow_zero, Nat.mul_one]; exact xl
    · right; rw [show (ey - min ex ey).toNat = 0 by omega, Nat.pow_zero, Nat.mul_one]; exact yl
  rw [Nat.add_mul] at h1 h2
  unfold sumX
  generalize sx * 2 ^ (ex - min ex ey).toNat = A at *
  generalize sy * 2 ^ (ey - min ex ey).toNat = B at *
  rw [if_neg (by decide)]
  by_cases he : A = B
  · rw [if_pos he]
  · rw [if_neg he]
    by_cases hlt : B < A
    · rw [if_pos hlt]; exact key _ _ (by omega) (by omega)
    · rw [if_neg hlt]; exact key _ _ (by omega) (by omega)
/-- A number that is below 0 has the sign: so what has it not is not below. -/
theorem not_below (f m a b : Nat) (c : Nat) (q : Int) (t : Nat) (ht : t = encN f false c q) (hc : Can f c q) (hf : f < 4) (ha : fitsB f a = true) (hb : fitsB f b = true) (ca : Fin0 f a) (cb : Fin0 f b) (nb : negN f b = false)
    (hv : ∀ e0 : Int, e0 ≤ q → e0 ≤ xpN f a → c * 2 ^ (q - e0).toNat ≤ (sigN f a + sigN f a) * 2 ^ (xpN f a - e0).toNat) (hs : negN f (subR f m t b).1 = false) :
    sigN f b * 2 ^ (xpN f b - min (xpN f a) (xpN f b)).toNat ≤ (sigN f a + sigN f a) * 2 ^ (xpN f a - min (xpN f a) (xpN f b)).toNat := by
  obtain ⟨n1, n2, n3, n4, n5⟩ := enc_can f c q false hf hc
  rw [← ht] at n1 n2 n3 n4 n5
  rw [sub_fin f m t b n1 hb n5 cb n2 nb, n3, n4] at hs
  rcases Nat.lt_or_ge (c * 2 ^ (q - min q (xpN f b)).toNat) (sigN f b * 2 ^ (xpN f b - min q (xpN f b)).toNat) with h | h
  · rw [sumX_below f m c q (sigN f b) (xpN f b) hf h] at hs; cases hs
  · obtain ⟨e0, h0⟩ : ∃ e0 : Int, e0 = min (min q (xpN f b)) (xpN f a) := ⟨_, rfl⟩
    obtain ⟨d1, hd1⟩ : ∃ d : Nat, (d : Int) = min q (xpN f b) - e0 := ⟨(min q (xpN f b) - e0).toNat, by omega⟩
    obtain ⟨d2, hd2⟩ : ∃ d : Nat, (d : Int) = min (xpN f a) (xpN f b) - e0 := ⟨(min (xpN f a) (xpN f b) - e0).toNat, by omega⟩
    have hv0 := hv e0 (by omega) (by omega)
    have h3 := Nat.mul_le_mul_right (2 ^ d1) h
    rw [Nat.mul_assoc, Nat.mul_assoc, ← Nat.pow_add, ← Nat.pow_add, show (q - min q (xpN f b)).toNat + d1 = (q - e0).toNat by omega, show (xpN f b - min q (xpN f b)).toNat + d1 = (xpN f b - e0).toNat by omega] at h3
    have h4 := Nat.le_trans h3 hv0
    rw [show (xpN f b - e0).toNat = (xpN f b - min (xpN f a) (xpN f b)).toNat + d2 by omega, show (xpN f a - e0).toNat = (xpN f a - min (xpN f a) (xpN f b)).toNat + d2 by omega, Nat.pow_add, Nat.pow_add, ← Nat.mul_assoc, ← Nat.mul_assoc] at h4
    exact Nat.le_of_mul_le_mul_right h4 (two_pos d2)
theorem two_R (f a : Nat) (ha : fitsB f a = true) (ca : Fin0 f a) (na : negN f a = false) : addR f 1 a a = packB f 1 false (sigN f a + sigN f a) (xpN f a) false := by
  obtain ⟨a1, a2, a3⟩ := fin_flags f a ca
  unfold addR
  rw [a1, a2, a3, below_neg f a (fin_cls f a ca).1, na]
  simp only [Bool.or_self, Bool.false_eq_true, if_false, Bool.and_self, Bool.false_and]
  unfold sumX
  rw [if_pos rfl, show min (xpN f a) (xpN f a) = xpN f a by omega, show (xpN f a - xpN f a).toNat = 0 by omega, Nat.pow_zero, Nat.mul_one]
theorem add_near (f m a b : Nat) (hf : f < 4) (ha : fitsB f a = true) (hb : fitsB f b = true) (ca : Fin0 f a) (cb : Fin0 f b) (na : negN f a = false) (nb : negN f b = false) :
    fitsB f (addR f 1 a a).1 = true ∧ fitsB f (addR f 1 b b).1 = true ∧
    (negN f (subR f m (addR f 1 a a).1 b).1 = false → negN f (subR f m (addR f 1 b b).1 a).1 = false → (subR f m a b).2 = 0) := by
  obtain ⟨hca, -⟩ := can_of f a ha ca
  obtain ⟨hcb, -⟩ := can_of f b hb cb
  obtain ⟨c, q, k1, k2, k3⟩ := two_of f _ _ hf hca
  obtain ⟨d, r, l1, l2, l3⟩ := two_of f _ _ hf hcb
  rw [two_R f a ha ca na, two_R f b hb cb nb]
  refine ⟨?_, ?_, ?_⟩
  · rw [k2]; exact (enc_can f c q false hf k1).1
  · rw [l2]; exact (enc_can f d r false hf l1).1
  · intro h1 h2
    have v1 := not_below f m a b c q _ k2 k1 hf ha hb ca cb nb k3 h1
    have v2 := not_below f m b a d r _ l2 l1 hf hb ha cb ca na l3 h2
    rw [sub_fin f m a b ha hb ca cb na nb]
    rw [Int.min_comm] at v2
    exact near_exact f m _ _ _ _ hf hca hcb v1 v2
open Go.RowKit
theorem kindFlip_no (f b : Nat) (w : World) (cF : ∀ w, Calls Tryd.prog 17 #[.int .u8 f, BV b] w fun e w' => e = .returned (.bool false) ∧ Below w.heap.size w w') :
    Calls Tryd.prog 40 #[.int .u8 f, BV b] w fun e w' => e = .returned (.agg #[.int .u64 0, .int .u64 0]) ∧ Below w.heap.size w w' := by
  have H := Own.start w
  go_enter Tryd.func40, Tryd.ntmps40
  exact walk5
theorem kindFlip_yes (f b z : Nat) (w : World) (cF : ∀ w, Calls Tryd.prog 17 #[.int .u8 f, BV b] w fun e w' => e = .returned (.bool true) ∧ Below w.heap.size w w') (cZ : ∀ w, Calls Tryd.prog 14 #[.int .u8 f, .bool true] w fun e w' => e = .returned (BV z) ∧ Below w.heap.size w w') :
    Calls Tryd.prog 40 #[.int .u8 f, BV b] w fun e w' => e = .returned (.agg #[.int .u64 (Go.bits .xor .u64 (limb b 1) (limb z 1)), .int .u64 (Go.bits .xor .u64 (limb b 0) (limb z 0))]) ∧ Below w.heap.size w w' := by
  have H := Own.start w
  go_enter Tryd.func40, Tryd.ntmps40
  exact walk5
theorem kindSign_no (f b : Nat) (w : World) (cF : ∀ w, Calls Tryd.prog 17 #[.int .u8 f, BV b] w fun e w' => e = .returned (.bool false) ∧ Below w.heap.size w w') :
    Calls Tryd.prog 7 #[.int .u8 f, BV b] w fun e w' => e = .returned (.bool false) ∧ Below w.heap.size w w' := by
  have H := Own.start w
  go_enter Tryd.func7, Tryd.ntmps7
  exact walk5
theorem kindSign_yes (f b n : Nat) (t : Bool) (w : World) (hn : 1 ≤ n) (hn2 : n ≤ 128) (cF : ∀ w, Calls Tryd.prog 17 #[.int .u8 f, BV b] w fun e w' => e = .returned (.bool true) ∧ Below w.heap.size w w') (cO : ∀ w, Calls Tryd.prog 25 #[BV b] w fun e w' => e = .returned (W b) ∧ Below w.heap.size w w') (cW : ∀ w, Calls Tryd.prog 26 #[.int .u8 f] w fun e w' => e = .returned (.int .i64 (n : Nat)) ∧ Below w.heap.size w w') (cB : ∀ w, Calls Tryd.prog 24 #[W b, .int .i64 ((n : Int) - 1)] w fun e w' => e = .returned (.bool t) ∧ Below w.heap.size w w') :
    Calls Tryd.prog 7 #[.int .u8 f, BV b] w fun e w' => e = .returned (.bool t) ∧ Below w.heap.size w w' := by
  have H := Own.start w
  go_enter Tryd.func7, Tryd.ntmps7
  exact walk5
theorem walk7 {P : Prop} (h : P := by
  go_wp2_with (first
    | ((with_reducible show wpList _ _ _ (⟨_, .store 24 _ _, _, _, _, _⟩ :: _) _ _); refine H.xt ?_ (hv := set_or1 _); (intro w H; simp only [Act.put]))
    | ((with_reducible show wpList _ _ _ (⟨_, .box _ _, _, _, _, _⟩ :: _) _ _); refine H.xb ?_; (intro g w H; simp only [Act.put, q1_, q2_, q3_]))
    | ((with_reducible show wpList _ _ _ (⟨_, .alloc _, _, _, _, _⟩ :: _) _ _); refine H.xa ?_; (intro g w H; simp only [Act.put, q1_, q2_, q3_]))
    | ((with_reducible show wpList _ _ _ (⟨_, .load _ _, _, _, _, _⟩ :: _) _ _); (first | refine H.xl ?_ | refine H.xm ?_); simp only [Act.put, q1_, q2_, q3_])
    | ((with_reducible show wpList _ _ _ (⟨_, .store _ _ _, _, _, _, _⟩ :: _) _ _); (first | refine H.xs ?_ | refine H.xt ?_); (intro w H; simp only [Act.put]))
    | (go_at_call 69; ((with_reducible refine (cR _ (HT.out.below H.below)).mono ?_); rintro e w ⟨rfl, hb⟩; replace H := H.call hb; clear hb))
    )
  all_goals (refine bodyPost_ret (results_c rfl rfl (H.res rW v3_ v4_ (by rfl))) rfl ⟨?_, H.below⟩; exact rfl)) : P := h
theorem jamRight_t (a b : Nat) (x : Int) (w : World) (hT : Tab w) (cR : ∀ w, Tab w → Calls Tryd.prog 69 #[W a, .int .i64 x] w fun e w' => e = .returned (.tuple #[W b, .bool true]) ∧ Below w.heap.size w w') :
    Calls Tryd.prog 34 #[W a, .int .i64 x] w fun e w' => e = .returned (W (b ||| 1)) ∧ Below w.heap.size w w' := by
  have H := Own.start w
  have HT := Lib.hid hT
  clear hT
  go_enter Tryd.func34, Tryd.ntmps34
  exact walk7
theorem jamRight_f (a b : Nat) (x : Int) (w : World) (hT : Tab w) (cR : ∀ w, Tab w → Calls Tryd.prog 69 #[W a, .int .i64 x] w fun e w' => e = .returned (.tuple #[W b, .bool false]) ∧ Below w.heap.size w w') :
    Calls Tryd.prog 34 #[W a, .int .i64 x] w fun e w' => e = .returned (W b) ∧ Below w.heap.size w w' := by
  have H := Own.start w
  have HT := Lib.hid hT
  clear hT
  go_enter Tryd.func34, Tryd.ntmps34
  exact walk7
open Go.RowKit
theorem limbN_xor (a b i : Nat) : limbN (a ^^^ b) i = limbN a i ^^^ limbN b i := by
  unfold limbN; rw [B64, Nat.xor_div_two_pow, Nat.xor_mod_two_pow]
theorem limb_xor (a b i : Nat) : Go.bits .xor .u64 (limb a i) (limb b i) = limb (a ^^^ b) i := by
  unfold limb; rw [u64_xor_nat _ _ (limbN_lt a i) (limbN_lt b i), limbN_xor]
theorem xor_top (x n : Nat) (h : x < 2 ^ n) : x ^^^ 2 ^ n = x + 2 ^ n := by
  have h1 : 2 ^ n ||| x = 2 ^ n + x := by
    have := Nat.two_pow_add_eq_or_of_lt h 1
    rw [Nat.mul_one] at this; exact this.symm
  rw [Nat.add_comm, ← h1]
  apply Nat.eq_of_testBit_eq
  intro i
  rw [Nat.testBit_xor, Nat.testBit_or, Nat.testBit_two_pow]
  by_cases hi : n = i
  · subst hi; rw [Nat.testBit_lt_two_pow h]; simp
  · simp [hi]
theorem flip_xor (f b : Nat) (h : fitsB f b = true) : b ^^^ zeroN f true = flipN f b := by
  obtain ⟨hf, hb⟩ := (fits_iff f b).1 h
  obtain ⟨h1, h2, h3, -⟩ := formK f hf
  have hz : zeroN f true = 2 ^ (wF f - 1) := by unfold zeroN signN; rw [decide_eq_true hf]; rfl
  have hm := mkN_of f b h
  have ht := Nat.mod_lt b (two_pos (pF f - 1))
  have he := expN_lt f b hf
  have hbase : expN f b * 2 ^ (pF f - 1) + b % 2 ^ (pF f - 1) < 2 ^ (wF f - 1) := by
    rw [h2, Nat.pow_add, h3, Nat.mul_comm (2 ^ (pF f - 1))]
    have : (expN f b + 1) * 2 ^ (pF f - 1) ≤ (2 * eF f + 2) * 2 ^ (pF f - 1) := Nat.mul_le_mul_right _ (by omega)
    rw [Nat.add_mul] at this; omega
  unfold flipN mkN
  rw [h, cond_true, hz]
  unfold mkN at hm
  unfold negN
  generalize expN f b * 2 ^ (pF f - 1) + b % 2 ^ (pF f - 1) = x at *
  have hx := xor_top x (wF f - 1) hbase
  cases hs : b.testBit (wF f - 1)
  · rw [hs] at hm
    have : b = x := by rw [← hm]; rfl
    rw [this, hx]; rfl
  · rw [hs] at hm
    have : b = x + 2 ^ (wF f - 1) := by rw [← hm]; rfl
    rw [this, ← hx, Nat.xor_assoc, Nat.xor_self, Nat.xor_zero]; rfl
theorem kindFlip_any (f b : Nat) (w : World) (hf : f < 256) (hb : b < 2 ^ (64 * 2)) :
    Calls Tryd.prog 40 #[.int .u8 f, BV b] w fun e w' => e = .returned (BV (flipN f b)) ∧ Below w.heap.size w w' := by
  have cF := fun w => shapeFits_any f b w hb
  cases h : fitsB f b
  · rw [h] at cF
    have e : flipN f b = 0 := by unfold flipN; rw [h]; rfl
    rw [e, show BV 0 = .agg #[.int .u64 (limb 0 1), .int .u64 (limb 0 0)] from rfl, limb_zero, limb_zero]
    exact kindFlip_no f b w cF
  · rw [h] at cF
    have cZ := fun w => shapeZero_any f true w hf
    refine (kindFlip_yes f b _ w cF cZ).mono ?_
    rintro e w' ⟨rfl, hb⟩
    refine ⟨?_, hb⟩
    rw [limb_xor, limb_xor, flip_xor f b h]
theorem kindSign_any (f b : Nat) (w : World) (hf : f < 256) (hb : b < 2 ^ (64 * 2)) :
    Calls Tryd.prog 7 #[.int .u8 f, BV b] w fun e w' => e = .returned (.bool (fitsB f b && negN f b)) ∧ Below w.heap.size w w' := by
  have cF := fun w => shapeFits_any f b w hb
  cases h : fitsB f b
  · rw [h] at cF
    exact kindSign_no f b w cF
  · rw [h] at cF
    obtain ⟨hf4, -⟩ := (fits_iff f b).1 h
    obtain ⟨-, -, h3, h4, -⟩ := formB f hf4
    have cT := fun w => wideBit_any b ((wF f : Int) - 1) w
    rw [show (wF f : Int) - 1 = ((wF f - 1 : Nat) : Int) by omega, bitI_in b _ (lt_top_bits b hb), show ((wF f - 1 : Nat) : Int) = (wF f : Int) - 1 by omega] at cT
    exact kindSign_yes f b (wF f) _ w (by omega) (by omega) cF (fun w => wideOfBits_any b w hb) (fun w => shapeWidth_any f w hf) cT
theorem jamRight_any (a : Nat) (x : Int) (w : World) (ha : a < top6) (hT : Tab w) :
    Calls Tryd.prog 34 #[W a, .int .i64 x] w fun e w' => e = .returned (W (jamN a x.toNat)) ∧ Below w.heap.size w w' := by
  have cR := fun w hT => wideRight_n a x w ha hT
  unfold jamN
  by_cases h : a % 2 ^ x.toNat = 0
  · rw [if_pos h]
    rw [decide_eq_true h] at cR
    exact jamRight_f a _ x w hT cR
  · rw [if_neg h]
    rw [decide_eq_false h] at cR
    exact jamRight_t a _ x w hT cR
open Go.RowKit
theorem subW_nat (x y d : Nat) (c : Bool) (hx : x < 18446744073709551616) (hy : y < 18446744073709551616) (hd : d < 18446744073709551616) (h : (d + y + c.toNat) % 18446744073709551616 = x) : subW (x : Int) (y : Int) c = (d : Int) := by
  unfold subW; cases c <;> simp at h ⊢ <;> omega
theorem borW_nat (x y d : Nat) (c : Bool) (hx : x < 18446744073709551616) (hy : y < 18446744073709551616) (hd : d < 18446744073709551616) (h : (d + y + c.toNat) % 18446744073709551616 = x) : borW (x : Int) (y : Int) c = decide (18446744073709551616 ≤ d + y + c.toNat) := by
  unfold borW; rw [Bool.eq_iff_iff, decide_eq_true_iff, decide_eq_true_iff]; cases c <;> simp at h ⊢ <;> omega
/-- The difference, as a number of 384 bits. -/
def subN (a b : Nat) : Nat := a + top6 - b
theorem limbN_top (a i : Nat) (h : i < 6) : limbN (a + top6) i = limbN a i := by
  have e : top6 = 2 ^ (64 * i) * (18446744073709551616 * 2 ^ (64 * (5 - i))) := by
    unfold top6
    rw [show 64 * 6 = 64 * i + (64 + 64 * (5 - i)) by omega, Nat.pow_add, Nat.pow_add]
  unfold limbN
  rw [e, Nat.add_mul_div_left _ _ (pw_pos i), Nat.add_mul_mod_self_left]
theorem sub_word (a b k : Nat) (hb : b < top6) (hk : k < 6) : (limbN (subN a b) k + limbN b k + (cbit (subN a b) b k).toNat) % 18446744073709551616 = limbN a k := by
  have h1 := sum_step (subN a b) b k
  rw [mod_low] at h1
  have e : subN a b + b = a + top6 := by unfold subN; omega
  have h2 : limbN (subN a b + b) k = limbN a k := by rw [e, limbN_top a k hk]
  rw [← h2]
  have h3 : limbN (subN a b + b) k * 2 ^ (64 * k) = (limbN (subN a b) k + limbN b k + (cbit (subN a b) b k).toNat) % 18446744073709551616 * 2 ^ (64 * k) := by omega
  exact (Nat.eq_of_mul_eq_mul_right (pw_pos k) h3).symm
theorem limbs_sub (a b : Nat) (h : b ≤ a) : limbs (subN a b) = limbs (a - b) := by
  apply limbs_eq
  intro i hi
  rw [← limbN_top (a - b) i hi]
  unfold subN
  rw [show a + top6 - b = a - b + top6 by omega]
theorem sub_limb (a b k : Nat) (cb : Bool) (hb : b < top6) (hk : k < 6) (h : cbit (subN a b) b k = cb) : subW (limb a k) (limb b k) cb = limb (subN a b) k := by
  unfold limb
  exact subW_nat _ _ _ _ (limbN_lt a k) (limbN_lt b k) (limbN_lt _ k) (by rw [← h]; exact sub_word a b k hb hk)
theorem sub_borrow (a b k : Nat) (cb : Bool) (hb : b < top6) (hk : k < 6) (h : cbit (subN a b) b k = cb) : cbit (subN a b) b (k + 1) = borW (limb a k) (limb b k) cb := by
  unfold limb
  rw [borW_nat _ _ _ _ (limbN_lt a k) (limbN_lt b k) (limbN_lt _ k) (by rw [← h]; exact sub_word a b k hb hk), cbit_step, h]
theorem wideSub_any (a b : Nat) (w : World) (hbt : b < top6) :
    Calls Tryd.prog 38 #[W a, W b] w fun e w' => e = .returned (.tuple #[W (subN a b), .bool (cbit (subN a b) b 6)]) ∧ Below w.heap.size w w' := by
  have HT := Lib.hid hbt
  clear hbt
  have sa := limbs_size a
  have sb := limbs_size b
  go_enter Tryd.func38, Tryd.ntmps38
  go_wp2_with fail
  go_loopw [5, 7] (fun c i wr => ∃ (k : Nat) (cb : Bool), k ≤ 6 ∧ i = .int .i64 k ∧ c = .bool cb ∧ Hid (cbit (subN a b) b k = cb) ∧
      Blk 46 wr w.heap.size (limbs a) ∧ Blk 46 wr (w.heap.size + 1) (limbs b) ∧
      Blk 46 wr (w.heap.size + 1 + 1) (fillTo (limbs 0) (fun i => .int .u64 (limb (subN a b) i)) k) ∧ Below w.heap.size w wr) (fun _ i _ => 6 - (intOf i).toNat)
  case atStart =>
    refine ⟨0, false, by omega, rfl, rfl, cbit_zero _ b, ((Blk.new w _).alloc _).alloc _, ?_, ?_, ((((Below.refl _ _).alloc (Nat.le_refl _) _).alloc (by simp) _).alloc (by simp <;> omega) _)⟩
    · have := (Blk.new (T := 46) (w.alloc (.cells (limbs a) 46)) (limbs b)).alloc (.cells #[.int .u64 0, .int .u64 0, .int .u64 0, .int .u64 0, .int .u64 0, .int .u64 0] 46)
      simpa using this
    · have := Blk.new (T := 46) ((w.alloc (.cells (limbs a) 46)).alloc (.cells (limbs b) 46)) #[.int .u64 0, .int .u64 0, .int .u64 0, .int .u64 0, .int .u64 0, .int .u64 0]
      rw [fillTo, limbs_zero]
      simpa using this
  case round =>
    obtain ⟨k, cb, hk, rfl, rfl, hc, ha, hb, hs, hbel⟩ := hrel
    by_cases hlt : k < 6
    · have ca := ha.cell k (limbs_get a k hlt)
      have cb' := hb.cell k (limbs_get b k hlt)
      have cs := hs.cell k ((fillTo_hi _ _ k k (Nat.le_refl _)).trans (limbs_get 0 k hlt))
      have fs := hs.free k
      go_wp2_with fail
      go_region_with (go_at_call 71; refine (wordSub_any _ _ _ _ (limb_w a k) (limb_w b k)).mono ?_; rintro e w' ⟨rfl, rfl⟩)
      all_goals go_wp2
      all_goals
        go_roundw
        case rel => exact ⟨k + 1, _, by omega, by go_num, rfl, sub_borrow a b k cb HT.out (by omega) hc.out, (ha.other _ _ (by simp; omega)).drew, (hb.other _ _ (by simp)).drew, (hs.set k _ (by rw [sub_limb a b k cb HT.out (by omega) hc.out]; rfl)).drew, (hbel.setCell (by simp; omega) _).drew⟩
        case measure => simp [intOf]; omega
    · have : k = 6 := by omega
      subst this
      rw [fillTo_all (limbs 0) _ (subN a b) rfl (fun i _ => rfl)] at hs
      have c0 := hs.cell 0 (limbs_get _ 0 (by decide))
      have c1 := hs.cell 1 (limbs_get _ 1 (by decide))
      have c2 := hs.cell 2 (limbs_get _ 2 (by decide))
      have c3 := hs.cell 3 (limbs_get _ 3 (by decide))
      have c4 := hs.cell 4 (limbs_get _ 4 (by decide))
      have c5 := hs.cell 5 (limbs_get _ 5 (by decide))
      have f0 := hs.free 0
      have f1 := hs.free 1
      have f2 := hs.free 2
      have f3 := hs.free 3
      have f4 := hs.free 4
      have f5 := hs.free 5
      clear ha hb hlt
      go_wp2_with fail
      rw [hs.keep 0 _ (limbs_get _ 0 (by decide)), hs.keep 1 _ (limbs_get _ 1 (by decide)), hs.keep 2 _ (limbs_get _ 2 (by decide)), hs.keep 3 _ (limbs_get _ 3 (by decide)), hs.keep 4 _ (limbs_get _ 4 (by decide)), hs.keep 5 _ (limbs_get _ 5 (by decide))]
      refine bodyPost_ret (v := .tuple #[W (subN a b), .bool cb]) (by simp [results, Tryd.results38, go_sem, c0, c1, c2, c3, c4, c5, limbs]) rfl ⟨by rw [hc.out], hbel⟩
end Go.Proofs.YtbngedcblngnhaaDoor
