/- Part 42 of what is proved: R11. -/
import Derived.Test.YtecdpjhifmlahaaGreatDoorHw4
import Derived.Test.YtecdpjhifmlahaaGreatDoorHw7
import Derived.Test.YtecdpjhifmlahaaGreatDoorHw11
import Derived.Test.YtecdpjhifmlahaaGreatDoorHw34
import Derived.Test.YtecdpjhifmlahaaGreatDoorHw36
import Derived.Test.YtecdpjhifmlahaaGreatDoorHw41
set_option linter.unusedSimpArgs false
set_option linter.unusedVariables false
set_option linter.unnecessarySimpa false
set_option maxRecDepth 100000
set_option maxHeartbeats 1600000
namespace Go.Proofs.YtecdpjhifmlahaaGreatDoor
open Go.RowKit
theorem r8IsSig_w (f b c : Nat) (w : World) (cC : CK_ 142 #[.int .u8 f, BV b] (.int .u8 (c : Nat))) :
    Calls Tryz.prog 77 #[.int .u8 f, BV b] w fun e w' => e = .returned (.bool ((c : Int) == 8)) ∧ Below w.heap.size w w' := by
  have H := Own.start w
  go_enter Tryz.func77, Tryz.ntmps77
  exact walk5
theorem r8IsSig_any (f b : Nat) (w : World) (hf : f < 4) (hb : b < 2 ^ (64 * 2)) :
    Calls Tryz.prog 77 #[.int .u8 f, BV b] w fun e w' => e = .returned (.bool (decide (clsN f b = 8))) ∧ Below w.heap.size w w' := by
  have h := r8IsSig_w f b _ w (fun w => r8Class_any f b w hf hb)
  rw [show ((clsN f b : Int) == 8) = decide (clsN f b = 8) by by_cases k : clsN f b = 8 <;> simp [k] <;> omega] at h
  exact h
theorem r11Fits2_form (f m a b : Nat) (w0 : World) (g0 : Nat) (hB : Blk 27 w0 g0 (cat2 (bc a) (bc b))) (cR : CK_ 62 #[.int .u8 f] (.bool false))  :
    Calls Tryz.prog 93 #[.int .u8 f, .int .u8 m, .slice (some ⟨g0, 0, none⟩) 2 2] w0 fun e w' => e = .returned (.bool false) ∧ Below w0.heap.size w0 w' := by
  have H := Own.start w0
  go_enter Tryz.func93, Tryz.ntmps93
  exact walk5
theorem r11Fits2_mode (f m a b : Nat) (w0 : World) (g0 : Nat) (hB : Blk 27 w0 g0 (cat2 (bc a) (bc b))) (cR : CK_ 62 #[.int .u8 f] (.bool true)) (cM : CK_ 49 #[.int .u8 m] (.bool false))  :
    Calls Tryz.prog 93 #[.int .u8 f, .int .u8 m, .slice (some ⟨g0, 0, none⟩) 2 2] w0 fun e w' => e = .returned (.bool false) ∧ Below w0.heap.size w0 w' := by
  have H := Own.start w0
  go_enter Tryz.func93, Tryz.ntmps93
  exact walk5
theorem r11Fits2_no0 (f m a b : Nat) (w0 : World) (g0 : Nat) (hB : Blk 27 w0 g0 (cat2 (bc a) (bc b))) (cR : CK_ 62 #[.int .u8 f] (.bool true)) (cM : CK_ 49 #[.int .u8 m] (.bool true)) (cTa : CK_ 48 #[.int .u8 f, BV a] (.bool false)) :
    Calls Tryz.prog 93 #[.int .u8 f, .int .u8 m, .slice (some ⟨g0, 0, none⟩) 2 2] w0 fun e w' => e = .returned (.bool false) ∧ Below w0.heap.size w0 w' := by
  have H := Own.start w0
  go_enter Tryz.func93, Tryz.ntmps93
  go_wp2_with (first
    | ((with_reducible show wpList _ _ _ (⟨_, .box _ _, _, _, _, _⟩ :: _) _ _); refine H.xb ?_; (intro g w H; simp only [Act.put, q1_, q2_, q3_]))
    | ((with_reducible show wpList _ _ _ (⟨_, .alloc _, _, _, _, _⟩ :: _) _ _); refine H.xa ?_; (intro g w H; simp only [Act.put, q1_, q2_, q3_]))
    | ((with_reducible show wpList _ _ _ (⟨_, .load _ _, _, _, _, _⟩ :: _) _ _); (first | refine H.xl ?_ | refine H.xm ?_); simp only [Act.put, q1_, q2_, q3_])
    | ((with_reducible show wpList _ _ _ (⟨_, .store _ _ _, _, _, _, _⟩ :: _) _ _); (first | refine H.xs ?_ | refine H.xt ?_); (intro w H; simp only [Act.put]))
    | ((with_reducible show wpList _ _ _ (⟨_, .load 27 _, _, _, _, _⟩ :: _) _ _); refine H.ldo rfl rB rfl rfl hB v5_ (by rfl) ?_; simp only [Act.put, q1_, q2_, q3_])
    | (go_at_call 62; ((with_reducible refine (cR _).mono ?_); rintro e w ⟨rfl, hb⟩; replace H := H.call hb; clear hb))
    | (go_at_call 49; ((with_reducible refine (cM _).mono ?_); rintro e w ⟨rfl, hb⟩; replace H := H.call hb; clear hb))
    | (go_at_call 48; ((with_reducible refine (cTa _).mono ?_); rintro e w ⟨rfl, hb⟩; replace H := H.call hb; clear hb))
    | (go_at_call 48; ((with_reducible refine (cTb _).mono ?_); rintro e w ⟨rfl, hb⟩; replace H := H.call hb; clear hb))
    )
  go_loopw [7] (fun i wr => (i = .int .i64 0 ∧ Own w0 wr [])) (fun i _ => 3 - (intOf i).toNat)
  case atStart => exact ⟨rfl, H⟩
  case round =>
    clear H
    obtain ⟨rfl, H⟩ := hrel
    · go_wp2_with (first
    | ((with_reducible show wpList _ _ _ (⟨_, .box _ _, _, _, _, _⟩ :: _) _ _); refine H.xb ?_; (intro g w H; simp only [Act.put, q1_, q2_, q3_]))
    | ((with_reducible show wpList _ _ _ (⟨_, .alloc _, _, _, _, _⟩ :: _) _ _); refine H.xa ?_; (intro g w H; simp only [Act.put, q1_, q2_, q3_]))
    | ((with_reducible show wpList _ _ _ (⟨_, .load _ _, _, _, _, _⟩ :: _) _ _); (first | refine H.xl ?_ | refine H.xm ?_); simp only [Act.put, q1_, q2_, q3_])
    | ((with_reducible show wpList _ _ _ (⟨_, .store _ _ _, _, _, _, _⟩ :: _) _ _); (first | refine H.xs ?_ | refine H.xt ?_); (intro w H; simp only [Act.put]))
    | ((with_reducible show wpList _ _ _ (⟨_, .load 27 _, _, _, _, _⟩ :: _) _ _); refine H.ldo rfl rB rfl rfl hB v5_ (by rfl) ?_; simp only [Act.put, q1_, q2_, q3_])
    | (go_at_call 62; ((with_reducible refine (cR _).mono ?_); rintro e w ⟨rfl, hb⟩; replace H := H.call hb; clear hb))
    | (go_at_call 49; ((with_reducible refine (cM _).mono ?_); rintro e w ⟨rfl, hb⟩; replace H := H.call hb; clear hb))
    | (go_at_call 48; ((with_reducible refine (cTa _).mono ?_); rintro e w ⟨rfl, hb⟩; replace H := H.call hb; clear hb))
    | (go_at_call 48; ((with_reducible refine (cTb _).mono ?_); rintro e w ⟨rfl, hb⟩; replace H := H.call hb; clear hb))
    )
      all_goals
        go_ret
        exact ⟨rfl, H.below⟩
theorem r11Fits2_no1 (f m a b : Nat) (w0 : World) (g0 : Nat) (hB : Blk 27 w0 g0 (cat2 (bc a) (bc b))) (cR : CK_ 62 #[.int .u8 f] (.bool true)) (cM : CK_ 49 #[.int .u8 m] (.bool true)) (cTa : CK_ 48 #[.int .u8 f, BV a] (.bool true)) (cTb : CK_ 48 #[.int .u8 f, BV b] (.bool false)) :
    Calls Tryz.prog 93 #[.int .u8 f, .int .u8 m, .slice (some ⟨g0, 0, none⟩) 2 2] w0 fun e w' => e = .returned (.bool false) ∧ Below w0.heap.size w0 w' := by
  have H := Own.start w0
  go_enter Tryz.func93, Tryz.ntmps93
  go_wp2_with (first
    | ((with_reducible show wpList _ _ _ (⟨_, .box _ _, _, _, _, _⟩ :: _) _ _); refine H.xb ?_; (intro g w H; simp only [Act.put, q1_, q2_, q3_]))
    | ((with_reducible show wpList _ _ _ (⟨_, .alloc _, _, _, _, _⟩ :: _) _ _); refine H.xa ?_; (intro g w H; simp only [Act.put, q1_, q2_, q3_]))
    | ((with_reducible show wpList _ _ _ (⟨_, .load _ _, _, _, _, _⟩ :: _) _ _); (first | refine H.xl ?_ | refine H.xm ?_); simp only [Act.put, q1_, q2_, q3_])
    | ((with_reducible show wpList _ _ _ (⟨_, .store _ _ _, _, _, _, _⟩ :: _) _ _); (first | refine H.xs ?_ | refine H.xt ?_); (intro w H; simp only [Act.put]))
    | ((with_reducible show wpList _ _ _ (⟨_, .load 27 _, _, _, _, _⟩ :: _) _ _); refine H.ldo rfl rB rfl rfl hB v5_ (by rfl) ?_; simp only [Act.put, q1_, q2_, q3_])
    | (go_at_call 62; ((with_reducible refine (cR _).mono ?_); rintro e w ⟨rfl, hb⟩; replace H := H.call hb; clear hb))
    | (go_at_call 49; ((with_reducible refine (cM _).mono ?_); rintro e w ⟨rfl, hb⟩; replace H := H.call hb; clear hb))
    | (go_at_call 48; ((with_reducible refine (cTa _).mono ?_); rintro e w ⟨rfl, hb⟩; replace H := H.call hb; clear hb))
    | (go_at_call 48; ((with_reducible refine (cTb _).mono ?_); rintro e w ⟨rfl, hb⟩; replace H := H.call hb; clear hb))
    )
  go_loopw [7] (fun i wr => (i = .int .i64 0 ∧ Own w0 wr []) ∨ (i = .int .i64 1 ∧ Own w0 wr [])) (fun i _ => 3 - (intOf i).toNat)
  case atStart => exact Or.inl ⟨rfl, H⟩
  case round =>
    clear H
    rcases hrel with ⟨rfl, H⟩ | ⟨rfl, H⟩
    · go_wp2_with (first
    | ((with_reducible show wpList _ _ _ (⟨_, .box _ _, _, _, _, _⟩ :: _) _ _); refine H.xb ?_; (intro g w H; simp only [Act.put, q1_, q2_, q3_]))
    | ((with_reducible show wpList _ _ _ (⟨_, .alloc _, _, _, _, _⟩ :: _) _ _); refine H.xa ?_; (intro g w H; simp only [Act.put, q1_, q2_, q3_]))
    | ((with_reducible show wpList _ _ _ (⟨_, .load _ _, _, _, _, _⟩ :: _) _ _); (first | refine H.xl ?_ | refine H.xm ?_); simp only [Act.put, q1_, q2_, q3_])
    | ((with_reducible show wpList _ _ _ (⟨_, .store _ _ _, _, _, _, _⟩ :: _) _ _); (first | refine H.xs ?_ | refine H.xt ?_); (intro w H; simp only [Act.put]))
    | ((with_reducible show wpList _ _ _ (⟨_, .load 27 _, _, _, _, _⟩ :: _) _ _); refine H.ldo rfl rB rfl rfl hB v5_ (by rfl) ?_; simp only [Act.put, q1_, q2_, q3_])
    | (go_at_call 62; ((with_reducible refine (cR _).mono ?_); rintro e w ⟨rfl, hb⟩; replace H := H.call hb; clear hb))
    | (go_at_call 49; ((with_reducible refine (cM _).mono ?_); rintro e w ⟨rfl, hb⟩; replace H := H.call hb; clear hb))
    | (go_at_call 48; ((with_reducible refine (cTa _).mono ?_); rintro e w ⟨rfl, hb⟩; replace H := H.call hb; clear hb))
    | (go_at_call 48; ((with_reducible refine (cTb _).mono ?_); rintro e w ⟨rfl, hb⟩; replace H := H.call hb; clear hb))
    )
      all_goals
        go_roundw
        case rel => exact Or.inr (⟨by go_num, H.sub v6_⟩)
        case measure => simp [intOf]
    · go_wp2_with (first
    | ((with_reducible show wpList _ _ _ (⟨_, .box _ _, _, _, _, _⟩ :: _) _ _); refine H.xb ?_; (intro g w H; simp only [Act.put, q1_, q2_, q3_]))
    | ((with_reducible show wpList _ _ _ (⟨_, .alloc _, _, _, _, _⟩ :: _) _ _); refine H.xa ?_; (intro g w H; simp only [Act.put, q1_, q2_, q3_]))
    | ((with_reducible show wpList _ _ _ (⟨_, .load _ _, _, _, _, _⟩ :: _) _ _); (first | refine H.xl ?_ | refine H.xm ?_); simp only [Act.put, q1_, q2_, q3_])
    | ((with_reducible show wpList _ _ _ (⟨_, .store _ _ _, _, _, _, _⟩ :: _) _ _); (first | refine H.xs ?_ | refine H.xt ?_); (intro w H; simp only [Act.put]))
    | ((with_reducible show wpList _ _ _ (⟨_, .load 27 _, _, _, _, _⟩ :: _) _ _); refine H.ldo rfl rB rfl rfl hB v5_ (by rfl) ?_; simp only [Act.put, q1_, q2_, q3_])
    | (go_at_call 62; ((with_reducible refine (cR _).mono ?_); rintro e w ⟨rfl, hb⟩; replace H := H.call hb; clear hb))
    | (go_at_call 49; ((with_reducible refine (cM _).mono ?_); rintro e w ⟨rfl, hb⟩; replace H := H.call hb; clear hb))
    | (go_at_call 48; ((with_reducible refine (cTa _).mono ?_); rintro e w ⟨rfl, hb⟩; replace H := H.call hb; clear hb))
    | (go_at_call 48; ((with_reducible refine (cTb _).mono ?_); rintro e w ⟨rfl, hb⟩; replace H := H.call hb; clear hb))
    )
      all_goals
        go_ret
        exact ⟨rfl, H.below⟩
theorem r11Fits2_ok (f m a b : Nat) (w0 : World) (g0 : Nat) (hB : Blk 27 w0 g0 (cat2 (bc a) (bc b))) (cR : CK_ 62 #[.int .u8 f] (.bool true)) (cM : CK_ 49 #[.int .u8 m] (.bool true)) (cTa : CK_ 48 #[.int .u8 f, BV a] (.bool true)) (cTb : CK_ 48 #[.int .u8 f, BV b] (.bool true)) :
    Calls Tryz.prog 93 #[.int .u8 f, .int .u8 m, .slice (some ⟨g0, 0, none⟩) 2 2] w0 fun e w' => e = .returned (.bool true) ∧ Below w0.heap.size w0 w' := by
  have H := Own.start w0
  go_enter Tryz.func93, Tryz.ntmps93
  go_wp2_with (first
    | ((with_reducible show wpList _ _ _ (⟨_, .box _ _, _, _, _, _⟩ :: _) _ _); refine H.xb ?_; (intro g w H; simp only [Act.put, q1_, q2_, q3_]))
    | ((with_reducible show wpList _ _ _ (⟨_, .alloc _, _, _, _, _⟩ :: _) _ _); refine H.xa ?_; (intro g w H; simp only [Act.put, q1_, q2_, q3_]))
    | ((with_reducible show wpList _ _ _ (⟨_, .load _ _, _, _, _, _⟩ :: _) _ _); (first | refine H.xl ?_ | refine H.xm ?_); simp only [Act.put, q1_, q2_, q3_])
    | ((with_reducible show wpList _ _ _ (⟨_, .store _ _ _, _, _, _, _⟩ :: _) _ _); (first | refine H.xs ?_ | refine H.xt ?_); (intro w H; simp only [Act.put]))
    | ((with_reducible show wpList _ _ _ (⟨_, .load 27 _, _, _, _, _⟩ :: _) _ _); refine H.ldo rfl rB rfl rfl hB v5_ (by rfl) ?_; simp only [Act.put, q1_, q2_, q3_])
    | (go_at_call 62; ((with_reducible refine (cR _).mono ?_); rintro e w ⟨rfl, hb⟩; replace H := H.call hb; clear hb))
    | (go_at_call 49; ((with_reducible refine (cM _).mono ?_); rintro e w ⟨rfl, hb⟩; replace H := H.call hb; clear hb))
    | (go_at_call 48; ((with_reducible refine (cTa _).mono ?_); rintro e w ⟨rfl, hb⟩; replace H := H.call hb; clear hb))
    | (go_at_call 48; ((with_reducible refine (cTb _).mono ?_); rintro e w ⟨rfl, hb⟩; replace H := H.call hb; clear hb))
    )
  go_loopw [7] (fun i wr => (i = .int .i64 0 ∧ Own w0 wr []) ∨ (i = .int .i64 1 ∧ Own w0 wr []) ∨ (i = .int .i64 2 ∧ Own w0 wr [])) (fun i _ => 3 - (intOf i).toNat)
  case atStart => exact Or.inl ⟨rfl, H⟩
  case round =>
    clear H
    rcases hrel with ⟨rfl, H⟩ | ⟨rfl, H⟩ | ⟨rfl, H⟩
    · go_wp2_with (first
    | ((with_reducible show wpList _ _ _ (⟨_, .box _ _, _, _, _, _⟩ :: _) _ _); refine H.xb ?_; (intro g w H; simp only [Act.put, q1_, q2_, q3_]))
    | ((with_reducible show wpList _ _ _ (⟨_, .alloc _, _, _, _, _⟩ :: _) _ _); refine H.xa ?_; (intro g w H; simp only [Act.put, q1_, q2_, q3_]))
    | ((with_reducible show wpList _ _ _ (⟨_, .load _ _, _, _, _, _⟩ :: _) _ _); (first | refine H.xl ?_ | refine H.xm ?_); simp only [Act.put, q1_, q2_, q3_])
    | ((with_reducible show wpList _ _ _ (⟨_, .store _ _ _, _, _, _, _⟩ :: _) _ _); (first | refine H.xs ?_ | refine H.xt ?_); (intro w H; simp only [Act.put]))
    | ((with_reducible show wpList _ _ _ (⟨_, .load 27 _, _, _, _, _⟩ :: _) _ _); refine H.ldo rfl rB rfl rfl hB v5_ (by rfl) ?_; simp only [Act.put, q1_, q2_, q3_])
    | (go_at_call 62; ((with_reducible refine (cR _).mono ?_); rintro e w ⟨rfl, hb⟩; replace H := H.call hb; clear hb))
    | (go_at_call 49; ((with_reducible refine (cM _).mono ?_); rintro e w ⟨rfl, hb⟩; replace H := H.call hb; clear hb))
    | (go_at_call 48; ((with_reducible refine (cTa _).mono ?_); rintro e w ⟨rfl, hb⟩; replace H := H.call hb; clear hb))
    | (go_at_call 48; ((with_reducible refine (cTb _).mono ?_); rintro e w ⟨rfl, hb⟩; replace H := H.call hb; clear hb))
    )
      all_goals
        go_roundw
        case rel => exact Or.inr (Or.inl ⟨by go_num, H.sub v6_⟩)
        case measure => simp [intOf]
    · go_wp2_with (first
    | ((with_reducible show wpList _ _ _ (⟨_, .box _ _, _, _, _, _⟩ :: _) _ _); refine H.xb ?_; (intro g w H; simp only [Act.put, q1_, q2_, q3_]))
    | ((with_reducible show wpList _ _ _ (⟨_, .alloc _, _, _, _, _⟩ :: _) _ _); refine H.xa ?_; (intro g w H; simp only [Act.put, q1_, q2_, q3_]))
    | ((with_reducible show wpList _ _ _ (⟨_, .load _ _, _, _, _, _⟩ :: _) _ _); (first | refine H.xl ?_ | refine H.xm ?_); simp only [Act.put, q1_, q2_, q3_])
    | ((with_reducible show wpList _ _ _ (⟨_, .store _ _ _, _, _, _, _⟩ :: _) _ _); (first | refine H.xs ?_ | refine H.xt ?_); (intro w H; simp only [Act.put]))
    | ((with_reducible show wpList _ _ _ (⟨_, .load 27 _, _, _, _, _⟩ :: _) _ _); refine H.ldo rfl rB rfl rfl hB v5_ (by rfl) ?_; simp only [Act.put, q1_, q2_, q3_])
    | (go_at_call 62; ((with_reducible refine (cR _).mono ?_); rintro e w ⟨rfl, hb⟩; replace H := H.call hb; clear hb))
    | (go_at_call 49; ((with_reducible refine (cM _).mono ?_); rintro e w ⟨rfl, hb⟩; replace H := H.call hb; clear hb))
    | (go_at_call 48; ((with_reducible refine (cTa _).mono ?_); rintro e w ⟨rfl, hb⟩; replace H := H.call hb; clear hb))
    | (go_at_call 48; ((with_reducible refine (cTb _).mono ?_); rintro e w ⟨rfl, hb⟩; replace H := H.call hb; clear hb))
    )
      all_goals
        go_roundw
        case rel => exact Or.inr (Or.inr (⟨by go_num, H.sub v6_⟩))
        case measure => simp [intOf]
    · go_wp2_with (first
    | ((with_reducible show wpList _ _ _ (⟨_, .box _ _, _, _, _, _⟩ :: _) _ _); refine H.xb ?_; (intro g w H; simp only [Act.put, q1_, q2_, q3_]))
    | ((with_reducible show wpList _ _ _ (⟨_, .alloc _, _, _, _, _⟩ :: _) _ _); refine H.xa ?_; (intro g w H; simp only [Act.put, q1_, q2_, q3_]))
    | ((with_reducible show wpList _ _ _ (⟨_, .load _ _, _, _, _, _⟩ :: _) _ _); (first | refine H.xl ?_ | refine H.xm ?_); simp only [Act.put, q1_, q2_, q3_])
    | ((with_reducible show wpList _ _ _ (⟨_, .store _ _ _, _, _, _, _⟩ :: _) _ _); (first | refine H.xs ?_ | refine H.xt ?_); (intro w H; simp only [Act.put]))
    | ((with_reducible show wpList _ _ _ (⟨_, .load 27 _, _, _, _, _⟩ :: _) _ _); refine H.ldo rfl rB rfl rfl hB v5_ (by rfl) ?_; simp only [Act.put, q1_, q2_, q3_])
    | (go_at_call 62; ((with_reducible refine (cR _).mono ?_); rintro e w ⟨rfl, hb⟩; replace H := H.call hb; clear hb))
    | (go_at_call 49; ((with_reducible refine (cM _).mono ?_); rintro e w ⟨rfl, hb⟩; replace H := H.call hb; clear hb))
    | (go_at_call 48; ((with_reducible refine (cTa _).mono ?_); rintro e w ⟨rfl, hb⟩; replace H := H.call hb; clear hb))
    | (go_at_call 48; ((with_reducible refine (cTb _).mono ?_); rintro e w ⟨rfl, hb⟩; replace H := H.call hb; clear hb))
    )
      all_goals
        go_ret
        exact ⟨rfl, H.below⟩
theorem r11Fits2_any (f m a b : Nat) (w0 : World) (ha : a < 2 ^ (64 * 2)) (hb : b < 2 ^ (64 * 2)) (g0 : Nat) (hB : Blk 27 w0 g0 (cat2 (bc a) (bc b))) :
    Calls Tryz.prog 93 #[.int .u8 f, .int .u8 m, .slice (some ⟨g0, 0, none⟩) 2 2] w0 fun e w' => e = .returned (.bool (binOk f m a b)) ∧ Below w0.heap.size w0 w' := by
  have cR := fun w => r7Right_any f w
  have cM := fun w => r7RightMode_any m w
  have cTa := fun w => r7Fits_any f a w ha
  have cTb := fun w => r7Fits_any f b w hb
  unfold binOk
  by_cases hf : f < 4
  case neg =>
    rw [decide_eq_false hf] at cR
    rw [decide_eq_false hf, Bool.false_and, Bool.false_and]
    exact r11Fits2_form f m a b w0 g0 hB cR
  rw [decide_eq_true hf] at cR
  by_cases hm : m < 5
  case neg =>
    rw [decide_eq_false hm] at cM
    rw [decide_eq_false hm, Bool.and_false, Bool.false_and]
    exact r11Fits2_mode f m a b w0 g0 hB cR cM
  rw [decide_eq_true hm] at cM
  rw [decide_eq_true hf, decide_eq_true hm, Bool.true_and, Bool.true_and]
  cases ka : fitsB f a
  case false =>
    rw [ka] at cTa
    rw [Bool.false_and]
    exact r11Fits2_no0 f m a b w0 g0 hB cR cM cTa
  rw [ka] at cTa
  cases kb : fitsB f b
  case false =>
    rw [kb] at cTb
    rw [Bool.true_and]
    exact r11Fits2_no1 f m a b w0 g0 hB cR cM cTa cTb
  rw [kb] at cTb
  rw [Bool.true_and]
  exact r11Fits2_ok f m a b w0 g0 hB cR cM cTa cTb
theorem r11Canon2 (f z a b : Nat) (sa sb : Bool) (w0 : World) (g0 : Nat) (hB : Blk 27 w0 g0 (cat2 (bc a) (bc b))) (cN : CK_ 78 #[.int .u8 f] (BV z)) (cSa : CK_ 77 #[.int .u8 f, BV a] (.bool sa)) (cSb : CK_ 77 #[.int .u8 f, BV b] (.bool sb)) :
    Calls Tryz.prog 94 #[.int .u8 f, .slice (some ⟨g0, 0, none⟩) 2 2] w0 fun e w' => e = .returned (.tuple #[BV z, .int .u8 (cond (sa || sb) 16 0)]) ∧ Below w0.heap.size w0 w' := by
  have H := Own.start w0
  go_enter Tryz.func94, Tryz.ntmps94
  go_wp2_with (first
    | ((with_reducible show wpList _ _ _ (⟨_, .box _ _, _, _, _, _⟩ :: _) _ _); refine H.xb ?_; (intro g w H; simp only [Act.put, q1_, q2_, q3_]))
    | ((with_reducible show wpList _ _ _ (⟨_, .alloc _, _, _, _, _⟩ :: _) _ _); refine H.xa ?_; (intro g w H; simp only [Act.put, q1_, q2_, q3_]))
    | ((with_reducible show wpList _ _ _ (⟨_, .load _ _, _, _, _, _⟩ :: _) _ _); (first | refine H.xl ?_ | refine H.xm ?_); simp only [Act.put, q1_, q2_, q3_])
    | ((with_reducible show wpList _ _ _ (⟨_, .store _ _ _, _, _, _, _⟩ :: _) _ _); (first | refine H.xs ?_ | refine H.xt ?_); (intro w H; simp only [Act.put]))
    | ((with_reducible show wpList _ _ _ (⟨_, .load 27 _, _, _, _, _⟩ :: _) _ _); refine H.ldo rfl rB rfl rfl hB v5_ (by rfl) ?_; simp only [Act.put, q1_, q2_, q3_])
    | (go_at_call 78; ((with_reducible refine (cN _).mono ?_); rintro e w ⟨rfl, hb⟩; replace H := H.call hb; clear hb))
    | (go_at_call 77; ((with_reducible refine (cSa _).mono ?_); rintro e w ⟨rfl, hb⟩; replace H := H.call hb; clear hb))
    | (go_at_call 77; ((with_reducible refine (cSb _).mono ?_); rintro e w ⟨rfl, hb⟩; replace H := H.call hb; clear hb))
    )
  go_loopw [6, 7] (fun v i wr => (i = .int .i64 0 ∧ v = .int .u8 0 ∧ Own w0 wr [(g, 27, #[.int .u64 0, .int .u64 0])]) ∨ (i = .int .i64 1 ∧ v = .int .u8 (cond (sa) 16 0) ∧ Own w0 wr [(g, 27, #[.int .u64 0, .int .u64 0])]) ∨ (i = .int .i64 2 ∧ v = .int .u8 (cond (sa || sb) 16 0) ∧ Own w0 wr [(g, 27, #[.int .u64 0, .int .u64 0])])) (fun _ i _ => 3 - (intOf i).toNat)
  case atStart => exact Or.inl ⟨rfl, rfl, H⟩
  case round =>
    clear H
    rcases hrel with ⟨rfl, rfl, H⟩ | ⟨rfl, rfl, H⟩ | ⟨rfl, rfl, H⟩
    · cases hc : sa
      · rw [hc] at cSa
        go_wp2_with (first
    | ((with_reducible show wpList _ _ _ (⟨_, .box _ _, _, _, _, _⟩ :: _) _ _); refine H.xb ?_; (intro g w H; simp only [Act.put, q1_, q2_, q3_]))
    | ((with_reducible show wpList _ _ _ (⟨_, .alloc _, _, _, _, _⟩ :: _) _ _); refine H.xa ?_; (intro g w H; simp only [Act.put, q1_, q2_, q3_]))
    | ((with_reducible show wpList _ _ _ (⟨_, .load _ _, _, _, _, _⟩ :: _) _ _); (first | refine H.xl ?_ | refine H.xm ?_); simp only [Act.put, q1_, q2_, q3_])
    | ((with_reducible show wpList _ _ _ (⟨_, .store _ _ _, _, _, _, _⟩ :: _) _ _); (first | refine H.xs ?_ | refine H.xt ?_); (intro w H; simp only [Act.put]))
    | ((with_reducible show wpList _ _ _ (⟨_, .load 27 _, _, _, _, _⟩ :: _) _ _); refine H.ldo rfl rB rfl rfl hB v5_ (by rfl) ?_; simp only [Act.put, q1_, q2_, q3_])
    | (go_at_call 78; ((with_reducible refine (cN _).mono ?_); rintro e w ⟨rfl, hb⟩; replace H := H.call hb; clear hb))
    | (go_at_call 77; ((with_reducible refine (cSa _).mono ?_); rintro e w ⟨rfl, hb⟩; replace H := H.call hb; clear hb))
    | (go_at_call 77; ((with_reducible refine (cSb _).mono ?_); rintro e w ⟨rfl, hb⟩; replace H := H.call hb; clear hb))
    )
        all_goals
          go_roundw
          case rel => exact Or.inr (Or.inl ⟨by go_num, (by first | rfl | simp), H.sub v6_⟩)
          case measure => simp [intOf]
      · rw [hc] at cSa
        go_wp2_with (first
    | ((with_reducible show wpList _ _ _ (⟨_, .box _ _, _, _, _, _⟩ :: _) _ _); refine H.xb ?_; (intro g w H; simp only [Act.put, q1_, q2_, q3_]))
    | ((with_reducible show wpList _ _ _ (⟨_, .alloc _, _, _, _, _⟩ :: _) _ _); refine H.xa ?_; (intro g w H; simp only [Act.put, q1_, q2_, q3_]))
    | ((with_reducible show wpList _ _ _ (⟨_, .load _ _, _, _, _, _⟩ :: _) _ _); (first | refine H.xl ?_ | refine H.xm ?_); simp only [Act.put, q1_, q2_, q3_])
    | ((with_reducible show wpList _ _ _ (⟨_, .store _ _ _, _, _, _, _⟩ :: _) _ _); (first | refine H.xs ?_ | refine H.xt ?_); (intro w H; simp only [Act.put]))
    | ((with_reducible show wpList _ _ _ (⟨_, .load 27 _, _, _, _, _⟩ :: _) _ _); refine H.ldo rfl rB rfl rfl hB v5_ (by rfl) ?_; simp only [Act.put, q1_, q2_, q3_])
    | (go_at_call 78; ((with_reducible refine (cN _).mono ?_); rintro e w ⟨rfl, hb⟩; replace H := H.call hb; clear hb))
    | (go_at_call 77; ((with_reducible refine (cSa _).mono ?_); rintro e w ⟨rfl, hb⟩; replace H := H.call hb; clear hb))
    | (go_at_call 77; ((with_reducible refine (cSb _).mono ?_); rintro e w ⟨rfl, hb⟩; replace H := H.call hb; clear hb))
    )
        all_goals
          go_roundw
          case rel => exact Or.inr (Or.inl ⟨by go_num, (by first | rfl | simp), H.sub v6_⟩)
          case measure => simp [intOf]
    · cases hc : sb
      · rw [hc] at cSb
        go_wp2_with (first
    | ((with_reducible show wpList _ _ _ (⟨_, .box _ _, _, _, _, _⟩ :: _) _ _); refine H.xb ?_; (intro g w H; simp only [Act.put, q1_, q2_, q3_]))
    | ((with_reducible show wpList _ _ _ (⟨_, .alloc _, _, _, _, _⟩ :: _) _ _); refine H.xa ?_; (intro g w H; simp only [Act.put, q1_, q2_, q3_]))
    | ((with_reducible show wpList _ _ _ (⟨_, .load _ _, _, _, _, _⟩ :: _) _ _); (first | refine H.xl ?_ | refine H.xm ?_); simp only [Act.put, q1_, q2_, q3_])
    | ((with_reducible show wpList _ _ _ (⟨_, .store _ _ _, _, _, _, _⟩ :: _) _ _); (first | refine H.xs ?_ | refine H.xt ?_); (intro w H; simp only [Act.put]))
    | ((with_reducible show wpList _ _ _ (⟨_, .load 27 _, _, _, _, _⟩ :: _) _ _); refine H.ldo rfl rB rfl rfl hB v5_ (by rfl) ?_; simp only [Act.put, q1_, q2_, q3_])
    | (go_at_call 78; ((with_reducible refine (cN _).mono ?_); rintro e w ⟨rfl, hb⟩; replace H := H.call hb; clear hb))
    | (go_at_call 77; ((with_reducible refine (cSa _).mono ?_); rintro e w ⟨rfl, hb⟩; replace H := H.call hb; clear hb))
    | (go_at_call 77; ((with_reducible refine (cSb _).mono ?_); rintro e w ⟨rfl, hb⟩; replace H := H.call hb; clear hb))
    )
        all_goals
          go_roundw
          case rel => exact Or.inr (Or.inr (⟨by go_num, (by first | rfl | simp), H.sub v6_⟩))
          case measure => simp [intOf]
      · rw [hc] at cSb
        go_wp2_with (first
    | ((with_reducible show wpList _ _ _ (⟨_, .box _ _, _, _, _, _⟩ :: _) _ _); refine H.xb ?_; (intro g w H; simp only [Act.put, q1_, q2_, q3_]))
    | ((with_reducible show wpList _ _ _ (⟨_, .alloc _, _, _, _, _⟩ :: _) _ _); refine H.xa ?_; (intro g w H; simp only [Act.put, q1_, q2_, q3_]))
    | ((with_reducible show wpList _ _ _ (⟨_, .load _ _, _, _, _, _⟩ :: _) _ _); (first | refine H.xl ?_ | refine H.xm ?_); simp only [Act.put, q1_, q2_, q3_])
    | ((with_reducible show wpList _ _ _ (⟨_, .store _ _ _, _, _, _, _⟩ :: _) _ _); (first | refine H.xs ?_ | refine H.xt ?_); (intro w H; simp only [Act.put]))
    | ((with_reducible show wpList _ _ _ (⟨_, .load 27 _, _, _, _, _⟩ :: _) _ _); refine H.ldo rfl rB rfl rfl hB v5_ (by rfl) ?_; simp only [Act.put, q1_, q2_, q3_])
    | (go_at_call 78; ((with_reducible refine (cN _).mono ?_); rintro e w ⟨rfl, hb⟩; replace H := H.call hb; clear hb))
    | (go_at_call 77; ((with_reducible refine (cSa _).mono ?_); rintro e w ⟨rfl, hb⟩; replace H := H.call hb; clear hb))
    | (go_at_call 77; ((with_reducible refine (cSb _).mono ?_); rintro e w ⟨rfl, hb⟩; replace H := H.call hb; clear hb))
    )
        all_goals
          go_roundw
          case rel => exact Or.inr (Or.inr (⟨by go_num, (by first | rfl | simp), H.sub v6_⟩))
          case measure => simp [intOf]
    · go_wp2_with (first
    | ((with_reducible show wpList _ _ _ (⟨_, .box _ _, _, _, _, _⟩ :: _) _ _); refine H.xb ?_; (intro g w H; simp only [Act.put, q1_, q2_, q3_]))
    | ((with_reducible show wpList _ _ _ (⟨_, .alloc _, _, _, _, _⟩ :: _) _ _); refine H.xa ?_; (intro g w H; simp only [Act.put, q1_, q2_, q3_]))
    | ((with_reducible show wpList _ _ _ (⟨_, .load _ _, _, _, _, _⟩ :: _) _ _); (first | refine H.xl ?_ | refine H.xm ?_); simp only [Act.put, q1_, q2_, q3_])
    | ((with_reducible show wpList _ _ _ (⟨_, .store _ _ _, _, _, _, _⟩ :: _) _ _); (first | refine H.xs ?_ | refine H.xt ?_); (intro w H; simp only [Act.put]))
    | ((with_reducible show wpList _ _ _ (⟨_, .load 27 _, _, _, _, _⟩ :: _) _ _); refine H.ldo rfl rB rfl rfl hB v5_ (by rfl) ?_; simp only [Act.put, q1_, q2_, q3_])
    | (go_at_call 78; ((with_reducible refine (cN _).mono ?_); rintro e w ⟨rfl, hb⟩; replace H := H.call hb; clear hb))
    | (go_at_call 77; ((with_reducible refine (cSa _).mono ?_); rintro e w ⟨rfl, hb⟩; replace H := H.call hb; clear hb))
    | (go_at_call 77; ((with_reducible refine (cSb _).mono ?_); rintro e w ⟨rfl, hb⟩; replace H := H.call hb; clear hb))
    )
      all_goals
        refine bodyPost_ret (results_ct rfl rfl (H.res rB v3_ v7_ (by rfl))) rfl ⟨?_, H.below⟩
        rfl
end Go.Proofs.YtecdpjhifmlahaaGreatDoor
