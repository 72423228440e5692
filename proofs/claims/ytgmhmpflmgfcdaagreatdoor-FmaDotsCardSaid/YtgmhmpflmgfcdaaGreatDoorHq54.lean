/- Part 54 of the proof. -/
import Derived.Test.YtgmhmpflmgfcdaaGreatDoorHq1
import Derived.Test.YtgmhmpflmgfcdaaGreatDoorHq5
import Derived.Test.YtgmhmpflmgfcdaaGreatDoorHq7
import Derived.Test.YtgmhmpflmgfcdaaGreatDoorHq37
import Derived.Test.YtgmhmpflmgfcdaaGreatDoorHq39
import Derived.Test.YtgmhmpflmgfcdaaGreatDoorHq53
set_option linter.unusedSimpArgs false
set_option linter.unusedVariables false
set_option linter.unnecessarySimpa false
set_option maxRecDepth 100000
set_option maxHeartbeats 3200000
namespace Go.Proofs.YtgmhmpflmgfcdaaGreatDoor
open Go.RowKit
def tellS (r : Nat × Int × Int) : Value := .tuple #[BV r.1, .int .u8 r.2.1, .int .i64 r.2.2]
theorem fma_open0_mode (f m : Nat) (w0 : World) (cM : ∀ w, Calls Tryz.prog 121 #[.int .u8 m] w fun e w' => e = .returned (.int .i64 2) ∧ w = w') :
  CR_ 110 #[.int .u8 f, .int .u8 m, .slice none 0 0] w0 (.tuple #[.agg (tri 0 0 0 0 0 0 0 0 0 0 0 0), .bool false]) := by
 have H := Own.start w0
 go_enter Tryz.func110, Tryz.ntmps110
 exact walk7
theorem fma_open0_form (f m : Nat) (w0 : World) (cM : ∀ w, Calls Tryz.prog 121 #[.int .u8 m] w fun e w' => e = .returned (.int .i64 0) ∧ w = w') (cF : ∀ w, Calls Tryz.prog 154 #[.int .u8 f] w fun e w' => e = .returned (.int .i64 2) ∧ w = w') :
  CR_ 110 #[.int .u8 f, .int .u8 m, .slice none 0 0] w0 (.tuple #[.agg (tri 0 0 0 0 0 0 0 0 0 0 0 0), .bool false]) := by
 have H := Own.start w0
 go_enter Tryz.func110, Tryz.ntmps110
 exact walk7
theorem fma_open0_ok (f m : Nat) (w0 : World) (hT : Tab w0) (cM : ∀ w, Calls Tryz.prog 121 #[.int .u8 m] w fun e w' => e = .returned (.int .i64 0) ∧ w = w') (cF : ∀ w, Calls Tryz.prog 154 #[.int .u8 f] w fun e w' => e = .returned (.int .i64 0) ∧ w = w')  :
  CR_ 110 #[.int .u8 f, .int .u8 m, .slice none 0 0] w0 (.tuple #[.agg (tri 0 0 0 0 0 0 0 0 0 0 0 0), .bool true]) := by
 have H := Own.start w0
 have HT := Lib.hid hT
 clear hT
 go_enter Tryz.func110, Tryz.ntmps110
 go_wp2_with (first
  | ((with_reducible refine g0_ rfl ?_); refine H.xb ?_; (intro g w H; simp only [Act.put, q1_, q2_, q3_]))
  | ((with_reducible refine g1_ rfl ?_); refine H.xa ?_; (intro g w H; simp only [Act.put, q1_, q2_, q3_]))
  | ((with_reducible refine g2_ rfl ?_); (first | refine H.xl ?_ | refine H.xm ?_); simp only [Act.put, q1_, q2_, q3_])
  | ((with_reducible refine g3_ rfl ?_); (first | refine H.xs ?_ | refine H.xt ?_); (intro w H; simp only [Act.put]))
  | (go_at_call 121; ((with_reducible refine (cM _).mono ?_); rintro e w' ⟨rfl, rfl⟩))
  | (go_at_call 154; ((with_reducible refine (cF _).mono ?_); rintro e w' ⟨rfl, rfl⟩))
  )
 go_loopw [23] (fun i wr => (i = .int .i64 0 ∧ Own w0 wr [(g, 101, (tri 0 0 0 0 0 0 0 0 0 0 0 0))])) (fun i _ => 1 - (intOf i).toNat)
 case atStart => exact ⟨rfl, H⟩
 case round =>
  clear H
  obtain ⟨rfl, H⟩ := hrel
  ·go_wp2_with (first
  | ((with_reducible refine g0_ rfl ?_); refine H.xb ?_; (intro g w H; simp only [Act.put, q1_, q2_, q3_]))
  | ((with_reducible refine g1_ rfl ?_); refine H.xa ?_; (intro g w H; simp only [Act.put, q1_, q2_, q3_]))
  | ((with_reducible refine g2_ rfl ?_); (first | refine H.xl ?_ | refine H.xm ?_); simp only [Act.put, q1_, q2_, q3_])
  | ((with_reducible refine g3_ rfl ?_); (first | refine H.xs ?_ | refine H.xt ?_); (intro w H; simp only [Act.put]))
  )
   all_goals
    refine bodyPost_ret (results_ct rfl rfl (H.res rQ v2_ (ext_tri _ _ _ _ _ _ _ _ _ _ _ _) (by rfl))) rfl ⟨?_, H.below⟩
    rfl
theorem fmaOpen0_any (f m : Nat) (hf : f < 256) (hm : m < 256) : ∃ q : Array Value, q.size = 42 ∧ ∀ w, Tab w → CR_ 110 #[.int .u8 f, .int .u8 m, .slice none 0 0] w (.tuple #[.agg (tri 0 0 0 0 0 0 0 0 0 0 0 0), .bool (decide (m < 5) && decide (f < 4))]) := by
 refine ⟨tri 0 0 0 0 0 0 0 0 0 0 0 0, rfl, fun w hT => ?_⟩
 have cM := fun w => shapeCheckMode_any m w hm
 have cF := fun w => shapeCheck_any f w hf
 by_cases hm5 : m < 5
 case neg =>
  rw [decide_eq_false hm5] at cM
  rw [decide_eq_false hm5]
  exact fma_open0_mode f m w cM
 rw [decide_eq_true hm5] at cM
 by_cases hf4 : f < 4
 case neg =>
  rw [decide_eq_false hf4] at cF
  rw [decide_eq_false hf4, Bool.and_false]
  exact fma_open0_form f m w cM cF
 rw [decide_eq_true hf4] at cF
 rw [decide_eq_true hm5, decide_eq_true hf4]
 exact fma_open0_ok f m w hT cM cF
theorem fmaDot_bad (f m n c k d : Nat) (sa sb : Option Addr) (w0 : World) (hT : Tab w0) (cO : CT_ 110 #[.int .u8 f, .int .u8 m, .slice none 0 0] (.tuple #[.agg (tri 0 0 0 0 0 0 0 0 0 0 0 0), .bool false]))  :
  CR_ 36 #[.int .u8 f, .int .u8 m, .slice sa n c, .slice sb k d] w0 (.tuple #[BV 0, .int .u8 0, .int .i64 2]) := by
 have H := Own.start w0
 have HT := Lib.hid hT
 clear hT
 go_enter Tryz.func36, Tryz.ntmps36
 exact walk7
theorem fmaDot_ne (f m n c k d : Nat) (sa sb : Option Addr) (w0 : World) (hT : Tab w0) (hne : ((n : Int) == (k : Int)) = false) (hne2 : ¬ (n : Int) = (k : Int)) (cO : CT_ 110 #[.int .u8 f, .int .u8 m, .slice none 0 0] (.tuple #[.agg (tri 0 0 0 0 0 0 0 0 0 0 0 0), .bool true]))  :
  CR_ 36 #[.int .u8 f, .int .u8 m, .slice sa n c, .slice sb k d] w0 (.tuple #[BV 0, .int .u8 0, .int .i64 2]) := by
 have H := Own.start w0
 have HT := Lib.hid hT
 clear hT
 go_enter Tryz.func36, Tryz.ntmps36
 exact walk7
theorem fmaDot_nil (f m c d : Nat) (sa sb : Option Addr) (w0 : World) (hT : Tab w0) (cO : CT_ 110 #[.int .u8 f, .int .u8 m, .slice none 0 0] (.tuple #[.agg (tri 0 0 0 0 0 0 0 0 0 0 0 0), .bool true])) :
  CR_ 36 #[.int .u8 f, .int .u8 m, .slice sa 0 c, .slice sb 0 d] w0 (.tuple #[BV 0, .int .u8 0, .int .i64 0]) := by
 have H := Own.start w0
 have HT := Lib.hid hT
 clear hT
 go_enter Tryz.func36, Tryz.ntmps36
 go_wp2_with (first
  | ((with_reducible refine g18_ rfl rfl ?_); refine H.xa ?_; (intro gr w H; simp only [Act.put, q1_, q2_, q3_]))
  | ((with_reducible refine g0_ rfl ?_); refine H.xb ?_; (intro g w H; simp only [Act.put, q1_, q2_, q3_]))
  | ((with_reducible refine g1_ rfl ?_); refine H.xa ?_; (intro g w H; simp only [Act.put, q1_, q2_, q3_]))
  | ((with_reducible refine g2_ rfl ?_); (first | refine H.xl ?_ | refine H.xm ?_); simp only [Act.put, q1_, q2_, q3_])
  | ((with_reducible refine g3_ rfl ?_); (first | refine H.xs ?_ | refine H.xt ?_); (intro w H; simp only [Act.put]))
  | (go_at_call 110; (with_reducible refine H.kc (cO _ (HT.out.below H.below)) ?_; clear H; intro w H))
  )
 go_loopw [38] (fun i wr => i = .int .i64 0 ∧ Own w0 wr [(gr, 27, #[.int .u64 0, .int .u64 0])]) (fun i _ => 1)
 case atStart => exact ⟨rfl, H.sub v5_⟩
 case round =>
  clear H
  obtain ⟨rfl, H⟩ := hrel
  go_wp2_with (first
  | ((with_reducible refine g14_ rfl rfl ?_); refine H.xa ?_; (intro gs w H; simp only [Act.put, q1_, q2_, q3_]))
  | ((with_reducible refine g0_ rfl ?_); refine H.xb ?_; (intro g w H; simp only [Act.put, q1_, q2_, q3_]))
  | ((with_reducible refine g1_ rfl ?_); refine H.xa ?_; (intro g w H; simp only [Act.put, q1_, q2_, q3_]))
  | ((with_reducible refine g2_ rfl ?_); (first | refine H.xl ?_ | refine H.xm ?_); simp only [Act.put, q1_, q2_, q3_])
  | ((with_reducible refine g3_ rfl ?_); (first | refine H.xs ?_ | refine H.xt ?_); (intro w H; simp only [Act.put]))
  )
  go_loopw [15, 61] (fun v i wr => i = .int .i64 0 ∧ v = .int .u8 0 ∧ Own w0 wr [(gs, 27, #[.int .u64 0, .int .u64 0]), (gr, 27, #[.int .u64 0, .int .u64 0])]) (fun _ i _ => 1)
  case atStart => exact ⟨rfl, rfl, H⟩
  case round =>
   clear H
   obtain ⟨rfl, rfl, H⟩ := hrel
   go_wp2_with (first
  | ((with_reducible refine g0_ rfl ?_); refine H.xb ?_; (intro g w H; simp only [Act.put, q1_, q2_, q3_]))
  | ((with_reducible refine g1_ rfl ?_); refine H.xa ?_; (intro g w H; simp only [Act.put, q1_, q2_, q3_]))
  | ((with_reducible refine g2_ rfl ?_); (first | refine H.xl ?_ | refine H.xm ?_); simp only [Act.put, q1_, q2_, q3_])
  | ((with_reducible refine g3_ rfl ?_); (first | refine H.xs ?_ | refine H.xt ?_); (intro w H; simp only [Act.put]))
  )
   all_goals
    refine bodyPost_ret (results_ctt rfl rfl (H.res rB v2_ v3_ (by rfl))) rfl ⟨?_, H.below⟩
    first | rfl | simp
theorem fmaDot_some (F : Nat → Nat → Nat → Nat × Nat × Int) (f m : Nat) (l r : List Nat) (g o h p n c d : Nat) (w0 : World) (hT : Tab w0) (hA : Bls w0 g o l) (hB : Bls w0 h p r) (hl : Hid (∀ b ∈ l, b < 2 ^ (64 * 2))) (hr : Hid (∀ b ∈ r, b < 2 ^ (64 * 2))) (hn : Hid (l.length = n)) (hm : Hid (r.length = n)) (hsm : n ≤ 60) (cO : CT_ 110 #[.int .u8 f, .int .u8 m, .slice none 0 0] (.tuple #[.agg (tri 0 0 0 0 0 0 0 0 0 0 0 0), .bool true])) (cT : ∀ b w, b < 2 ^ (64 * 2) → CR_ 92 #[.int .u8 f, BV b] w (.bool (fitsB f b))) (cA : ∀ a b c w, a < 2 ^ (64 * 2) → b < 2 ^ (64 * 2) → c < 2 ^ (64 * 2) → Tab w → CR_ 33 #[.int .u8 f, .int .u8 m, BV a, BV b, BV c] w (.tuple #[BV (F a b c).1, .int .u8 ((F a b c).2.1 : Nat), .int .i64 (F a b c).2.2])) :
  CR_ 36 #[.int .u8 f, .int .u8 m, .slice (some ⟨g, o, none⟩) n c, .slice (some ⟨h, p, none⟩) n d] w0 (if (allB f l && allB f r) = true then .tuple #[BV (dotF F (l.zip r)).1, .int .u8 (dotF F (l.zip r)).2, .int .i64 0] else .tuple #[BV 0, .int .u8 0, .int .i64 2]) := by
 obtain ⟨R, hR⟩ : ∃ R : Value, Hid (R = if (allB f l && allB f r) = true then .tuple #[BV (dotF F (l.zip r)).1, .int .u8 (dotF F (l.zip r)).2, .int .i64 0] else .tuple #[BV 0, .int .u8 0, .int .i64 2]) := ⟨_, Lib.hid rfl⟩
 rw [← hR.out]
 have H := Own.start w0
 have HT := Lib.hid hT
 clear hT
 go_enter Tryz.func36, Tryz.ntmps36
 go_wp2_with (first
  | ((with_reducible refine g18_ rfl rfl ?_); refine H.xa ?_; (intro gr w H; simp only [Act.put, q1_, q2_, q3_]))
  | ((with_reducible refine g0_ rfl ?_); refine H.xb ?_; (intro g w H; simp only [Act.put, q1_, q2_, q3_]))
  | ((with_reducible refine g1_ rfl ?_); refine H.xa ?_; (intro g w H; simp only [Act.put, q1_, q2_, q3_]))
  | ((with_reducible refine g2_ rfl ?_); (first | refine H.xl ?_ | refine H.xm ?_); simp only [Act.put, q1_, q2_, q3_])
  | ((with_reducible refine g3_ rfl ?_); (first | refine H.xs ?_ | refine H.xt ?_); (intro w H; simp only [Act.put]))
  | (go_at_call 110; (with_reducible refine H.kc (cO _ (HT.out.below H.below)) ?_; clear H; intro w H))
  )
 go_loopw [38] (fun i wr => ∃ k : Nat, k ≤ n ∧ i = .int .i64 k ∧ Hid (∀ j b, j < k → l[j]? = some b → fitsB f b = true) ∧ Hid (∀ j b, j < k → r[j]? = some b → fitsB f b = true) ∧ Own w0 wr [(gr, 27, #[.int .u64 0, .int .u64 0])]) (fun i _ => n + 1 - (intOf i).toNat)
 case atStart => exact ⟨0, by omega, rfl, (by intro j b hj; omega), (by intro j b hj; omega), H.sub v5_⟩
 case round =>
  clear H
  obtain ⟨k, hk, rfl, hfit, hfit2, H⟩ := hrel
  by_cases hlt : k < n
  ·obtain ⟨a, ha⟩ : ∃ a, l[k]? = some a := ⟨_, List.getElem?_eq_getElem (by rw [hn.out]; exact hlt)⟩
   obtain ⟨b, hb⟩ : ∃ b, r[k]? = some b := ⟨_, List.getElem?_eq_getElem (by rw [hm.out]; exact hlt)⟩
   have hd : decide ((k : Int) < (n : Int)) = true := by simp; omega
   have cTa := fun w => cT a w (hl.out a (List.mem_of_getElem? ha))
   have cTb := fun w => cT b w (hr.out b (List.mem_of_getElem? hb))
   cases hf : fitsB f a
   ·rw [hf] at cTa
    go_wp2_with (first
  | ((with_reducible refine g0_ rfl ?_); refine H.xb ?_; (intro g w H; simp only [Act.put, q1_, q2_, q3_]))
  | ((with_reducible refine g1_ rfl ?_); refine H.xa ?_; (intro g w H; simp only [Act.put, q1_, q2_, q3_]))
  | ((with_reducible refine g2_ rfl ?_); (first | refine H.xl ?_ | refine H.xm ?_); simp only [Act.put, q1_, q2_, q3_])
  | ((with_reducible refine g3_ rfl ?_); (first | refine H.xs ?_ | refine H.xt ?_); (intro w H; simp only [Act.put]))
  | ((with_reducible refine g5_ rfl ?_); (first | refine H.lde hA ha ?_ | refine H.lde hB hb ?_); simp only [Act.put, q1_, q2_, q3_])
  | (go_at_call 92; (with_reducible refine H.kc (cTa _) ?_; clear H; intro w H))
  | (go_at_call 92; (with_reducible refine H.kc (cTb _) ?_; clear H; intro w H))
  )
    all_goals
     refine bodyPost_ret (results_ctt rfl rfl (H.res rB v2_ v3_ (by rfl))) rfl ⟨?_, H.below⟩
     rw [hR.out, allB_not f l k a ha hf, Bool.false_and]
     rfl
   rw [hf] at cTa
   cases hf2 : fitsB f b
   ·rw [hf2] at cTb
    go_wp2_with (first
  | ((with_reducible refine g0_ rfl ?_); refine H.xb ?_; (intro g w H; simp only [Act.put, q1_, q2_, q3_]))
  | ((with_reducible refine g1_ rfl ?_); refine H.xa ?_; (intro g w H; simp only [Act.put, q1_, q2_, q3_]))
  | ((with_reducible refine g2_ rfl ?_); (first | refine H.xl ?_ | refine H.xm ?_); simp only [Act.put, q1_, q2_, q3_])
  | ((with_reducible refine g3_ rfl ?_); (first | refine H.xs ?_ | refine H.xt ?_); (intro w H; simp only [Act.put]))
  | ((with_reducible refine g5_ rfl ?_); (first | refine H.lde hA ha ?_ | refine H.lde hB hb ?_); simp only [Act.put, q1_, q2_, q3_])
  | (go_at_call 92; (with_reducible refine H.kc (cTa _) ?_; clear H; intro w H))
  | (go_at_call 92; (with_reducible refine H.kc (cTb _) ?_; clear H; intro w H))
  )
    all_goals
     refine bodyPost_ret (results_ctt rfl rfl (H.res rB v2_ v3_ (by rfl))) rfl ⟨?_, H.below⟩
     rw [hR.out, allB_not f r k b hb hf2, Bool.and_false]
     rfl
   ·rw [hf2] at cTb
    go_wp2_with (first
  | ((with_reducible refine g0_ rfl ?_); refine H.xb ?_; (intro g w H; simp only [Act.put, q1_, q2_, q3_]))
  | ((with_reducible refine g1_ rfl ?_); refine H.xa ?_; (intro g w H; simp only [Act.put, q1_, q2_, q3_]))
  | ((with_reducible refine g2_ rfl ?_); (first | refine H.xl ?_ | refine H.xm ?_); simp only [Act.put, q1_, q2_, q3_])
  | ((with_reducible refine g3_ rfl ?_); (first | refine H.xs ?_ | refine H.xt ?_); (intro w H; simp only [Act.put]))
  | ((with_reducible refine g5_ rfl ?_); (first | refine H.lde hA ha ?_ | refine H.lde hB hb ?_); simp only [Act.put, q1_, q2_, q3_])
  | (go_at_call 92; (with_reducible refine H.kc (cTa _) ?_; clear H; intro w H))
  | (go_at_call 92; (with_reducible refine H.kc (cTb _) ?_; clear H; intro w H))
  )
    all_goals
     go_roundw
     case rel => exact ⟨k + 1, by omega, by go_num, fits_next hfit.out ha hf, fits_next hfit2.out hb hf2, H.sub v5_⟩
     case measure => first | (simp [intOf]; omega) | simp [intOf]
  ·obtain rfl : k = n := by omega
   have hd : decide ((k : Int) < (k : Int)) = false := by simp
   have hall := allB_yes f l k (by rw [hn.out]; exact Nat.le_refl _) hfit.out
   have hall2 := allB_yes f r k (by rw [hm.out]; exact Nat.le_refl _) hfit2.out
   have hR2 : Hid (R = _) := hR.out.trans (if_pos (by rw [hall, hall2]; rfl))
   clear hfit hfit2 hall hall2 hR
   go_wp2_with (first
  | ((with_reducible refine g14_ rfl rfl ?_); refine H.xa ?_; (intro gs w H; simp only [Act.put, q1_, q2_, q3_]))
  | ((with_reducible refine g0_ rfl ?_); refine H.xb ?_; (intro g w H; simp only [Act.put, q1_, q2_, q3_]))
  | ((with_reducible refine g1_ rfl ?_); refine H.xa ?_; (intro g w H; simp only [Act.put, q1_, q2_, q3_]))
  | ((with_reducible refine g2_ rfl ?_); (first | refine H.xl ?_ | refine H.xm ?_); simp only [Act.put, q1_, q2_, q3_])
  | ((with_reducible refine g3_ rfl ?_); (first | refine H.xs ?_ | refine H.xt ?_); (intro w H; simp only [Act.put]))
  )
   go_loopw [15, 61] (fun v i wr => ∃ j s : Nat, ∃ q : Int, j ≤ k ∧ i = .int .i64 j ∧ v = .int .u8 q ∧ Hid ((s, q) = dotF F ((l.zip r).take j)) ∧ Own w0 wr [(gs, 27, bc s), (gr, 27, #[.int .u64 0, .int .u64 0])]) (fun _ i _ => k + 1 - (intOf i).toNat)
   case atStart => exact ⟨0, 0, 0, by omega, rfl, rfl, (rfl : ((0 : Nat), (0 : Int)) = dotF F ((l.zip r).take 0)), H⟩
   case round =>
    clear H
    obtain ⟨j, s, q, hj, rfl, rfl, hs, H⟩ := hrel
    by_cases hlt2 : j < k
    ·obtain ⟨a, ha⟩ : ∃ a, l[j]? = some a := ⟨_, List.getElem?_eq_getElem (by rw [hn.out]; exact hlt2)⟩
     obtain ⟨b, hb⟩ : ∃ b, r[j]? = some b := ⟨_, List.getElem?_eq_getElem (by rw [hm.out]; exact hlt2)⟩
     have hd2 : decide ((j : Int) < (k : Int)) = true := by simp; omega
     have hslt : s < 2 ^ (64 * 2) := by have := dotF_lt F ((l.zip r).take j); rw [← hs.out] at this; exact this
     have cAb := fun w => cA a b s w (hl.out a (List.mem_of_getElem? ha)) (hr.out b (List.mem_of_getElem? hb)) hslt
     have h1 := Lib.hid (dotF_next F l r j a b ha hb)
     clear hslt
     go_wp2_with (first
  | ((with_reducible refine g0_ rfl ?_); refine H.xb ?_; (intro g w H; simp only [Act.put, q1_, q2_, q3_]))
  | ((with_reducible refine g1_ rfl ?_); refine H.xa ?_; (intro g w H; simp only [Act.put, q1_, q2_, q3_]))
  | ((with_reducible refine g2_ rfl ?_); (first | refine H.xl ?_ | refine H.xm ?_); simp only [Act.put, q1_, q2_, q3_])
  | ((with_reducible refine g3_ rfl ?_); (first | refine H.xs ?_ | refine H.xt ?_); (intro w H; simp only [Act.put]))
  | ((with_reducible show Code.wp _ (.region 15 _ true) _ _ _); refine H.heldSub rfl (List.Sublist.refl _) ?_; intro H; refine H.zr 0 ?_; (try simp only [Act.put, q1_, q2_, q3_]); (try simp only [q4_, q5_, q6_]); refine H.zr 1 ?_; (try simp only [Act.put, q1_, q2_, q3_]); (try simp only [q4_, q5_, q6_]); refine H.zr 2 ?_; (try simp only [Act.put, q1_, q2_, q3_]); (try simp only [q4_, q5_, q6_]); refine H.zr 3 ?_; (try simp only [Act.put, q1_, q2_, q3_]); (try simp only [q4_, q5_, q6_]); refine H.zr 4 ?_ (hv := by intro w; go_simp; first | with_reducible rfl | (rw [if_pos (by omega)])); (try simp only [Act.put, q1_, q2_, q3_]); (try simp only [q4_, q5_, q6_]); refine H.zle 5 hA ha ?_; (try simp only [Act.put, q1_, q2_, q3_]); (try simp only [q4_, q5_, q6_]); refine H.zr 6 ?_; (try simp only [Act.put, q1_, q2_, q3_]); (try simp only [q4_, q5_, q6_]); refine H.zr 7 ?_; (try simp only [Act.put, q1_, q2_, q3_]); (try simp only [q4_, q5_, q6_]); refine H.zr 8 ?_ (hv := by intro w; go_simp; first | with_reducible rfl | (rw [if_pos (by omega)])); (try simp only [Act.put, q1_, q2_, q3_]); (try simp only [q4_, q5_, q6_]); refine H.zle 9 hB hb ?_; (try simp only [Act.put, q1_, q2_, q3_]); (try simp only [q4_, q5_, q6_]); (first | refine H.zl 10 ?_ | refine H.zm 10 ?_); (try simp only [Act.put, q1_, q2_, q3_]); (try simp only [q4_, q5_, q6_]); refine held2 11 16 ?_ ?_; (unfold Oper.wp; go_simp; (go_at_call 33; (with_reducible refine H.kc (cAb _ (HT.out.below H.below)) ?_; clear H; intro w H)); refine H.nx ?_; (try simp only [Act.put, q1_, q2_, q3_]); (try simp only [q4_, q5_, q6_]); refine H.zr 12 ?_; (try simp only [Act.put, q1_, q2_, q3_]); (try simp only [q4_, q5_, q6_]); refine H.zr 13 ?_; (try simp only [Act.put, q1_, q2_, q3_]); (try simp only [q4_, q5_, q6_]); refine H.zr 14 ?_; (try simp only [Act.put, q1_, q2_, q3_]); (try simp only [q4_, q5_, q6_]); refine H.zr 15 ?_; (try simp only [Act.put, q1_, q2_, q3_]); (try simp only [q4_, q5_, q6_]); refine held1 16 ?_; refine H.ya ?_; intro g w H; refine H.nx ?_; (try simp only [Act.put, q1_, q2_, q3_]); (try simp only [q4_, q5_, q6_]); refine held1 17 ?_; (first | refine H.ys ?_ | refine H.yt ?_); intro w H; refine H.nx ?_; (try simp only [Act.put]); refine H.zr 18 ?_; (try simp only [Act.put, q1_, q2_, q3_]); (try simp only [q4_, q5_, q6_]); refine H.zr 19 ?_; (try simp only [Act.put, q1_, q2_, q3_]); (try simp only [q4_, q5_, q6_]); refine wpAnyH_done (by kernel_rfl) ?_ _); rotate_left; (refine H.ya ?_; intro g w H; refine H.nx ?_; (try simp only [Act.put, q1_, q2_, q3_]); (try simp only [q4_, q5_, q6_]); refine held1 11 ?_; unfold Oper.wp; go_simp; (go_at_call 33; (with_reducible refine H.kc (cAb _ (HT.out.below H.below)) ?_; clear H; intro w H)); refine H.nx ?_; (try simp only [Act.put, q1_, q2_, q3_]); (try simp only [q4_, q5_, q6_]); refine H.zr 12 ?_; (try simp only [Act.put, q1_, q2_, q3_]); (try simp only [q4_, q5_, q6_]); refine H.zr 13 ?_; (try simp only [Act.put, q1_, q2_, q3_]); (try simp only [q4_, q5_, q6_]); refine H.zr 14 ?_; (try simp only [Act.put, q1_, q2_, q3_]); (try simp only [q4_, q5_, q6_]); refine H.zr 15 ?_; (try simp only [Act.put, q1_, q2_, q3_]); (try simp only [q4_, q5_, q6_]); refine held1 17 ?_; (first | refine H.ys ?_ | refine H.yt ?_); intro w H; refine H.nx ?_; (try simp only [Act.put]); refine H.zr 18 ?_; (try simp only [Act.put, q1_, q2_, q3_]); (try simp only [q4_, q5_, q6_]); refine H.zr 19 ?_; (try simp only [Act.put, q1_, q2_, q3_]); (try simp only [q4_, q5_, q6_]); refine wpAnyH_done (by kernel_rfl) ?_ _))
  )
     all_goals
      go_roundw
      case rel => exact ⟨j + 1, (F a b s).1 % 2 ^ (64 * 2), Go.bits .or .u8 q ((F a b s).2.1 : Nat), by omega, by go_num, rfl, (by show _ = dotF F _; rw [h1.out, ← hs.out]; rfl), (by have := bv_mod (F a b s).1; injection this with e; unfold bc; rw [e]; exact H.sub (by repeat (first | with_reducible exact List.Sublist.refl _ | with_reducible apply List.Sublist.cons_cons | with_reducible apply List.Sublist.cons)))⟩
      case measure => first | (simp [intOf]; omega) | simp [intOf]
    ·obtain rfl : j = k := by omega
     have hd2 : decide ((j : Int) < (j : Int)) = false := by simp
     have h2 := hs.out
     rw [List.take_of_length_le (by rw [List.length_zip, hn.out, hm.out]; omega)] at h2
     have h3 := Lib.hid h2
     clear h2 hs
     go_wp2_with (first
  | ((with_reducible refine g0_ rfl ?_); refine H.xb ?_; (intro g w H; simp only [Act.put, q1_, q2_, q3_]))
  | ((with_reducible refine g1_ rfl ?_); refine H.xa ?_; (intro g w H; simp only [Act.put, q1_, q2_, q3_]))
  | ((with_reducible refine g2_ rfl ?_); (first | refine H.xl ?_ | refine H.xm ?_); simp only [Act.put, q1_, q2_, q3_])
  | ((with_reducible refine g3_ rfl ?_); (first | refine H.xs ?_ | refine H.xt ?_); (intro w H; simp only [Act.put]))
  )
     all_goals
      refine bodyPost_ret (results_ctt rfl rfl (H.res rB v2_ v3_ (by rfl))) rfl ⟨?_, H.below⟩
      rw [hR2.out, ← h3.out]
      rfl
theorem r15Dot_no1 (f m n c k d : Nat) (sa sb : Option Addr) (w0 : World) (cX : ∀ w, Below w0.heap.size w0 w → CR_ 82 #[.int .u8 f, .int .u8 m, .slice sa n c] w (.bool false))  :
  CR_ 37 #[.int .u8 f, .int .u8 m, .slice sa n c, .slice sb k d] w0 (.tuple #[BV 0, .int .u8 0, .int .i64 2]) := by
 have H := Own.start w0
 go_enter Tryz.func37, Tryz.ntmps37
 exact walk7
theorem r15Dot_no2 (f m n c k d : Nat) (sa sb : Option Addr) (w0 : World) (cX : ∀ w, Below w0.heap.size w0 w → CR_ 82 #[.int .u8 f, .int .u8 m, .slice sa n c] w (.bool true)) (cY : ∀ w, Below w0.heap.size w0 w → CR_ 82 #[.int .u8 f, .int .u8 m, .slice sb k d] w (.bool false))  :
  CR_ 37 #[.int .u8 f, .int .u8 m, .slice sa n c, .slice sb k d] w0 (.tuple #[BV 0, .int .u8 0, .int .i64 2]) := by
 have H := Own.start w0
 go_enter Tryz.func37, Tryz.ntmps37
 exact walk7
theorem r15Dot_ne (f m n c k d : Nat) (sa sb : Option Addr) (w0 : World) (hne : ((n : Int) == (k : Int)) = false) (hne2 : ¬ (n : Int) = (k : Int)) (cX : ∀ w, Below w0.heap.size w0 w → CR_ 82 #[.int .u8 f, .int .u8 m, .slice sa n c] w (.bool true)) (cY : ∀ w, Below w0.heap.size w0 w → CR_ 82 #[.int .u8 f, .int .u8 m, .slice sb k d] w (.bool true))  :
  CR_ 37 #[.int .u8 f, .int .u8 m, .slice sa n c, .slice sb k d] w0 (.tuple #[BV 0, .int .u8 0, .int .i64 2]) := by
 have H := Own.start w0
 go_enter Tryz.func37, Tryz.ntmps37
 exact walk7
theorem r15Dot_nil (f m c d : Nat) (sa sb : Option Addr) (w0 : World) (cX : ∀ w, Below w0.heap.size w0 w → CR_ 82 #[.int .u8 f, .int .u8 m, .slice sa 0 c] w (.bool true)) (cY : ∀ w, Below w0.heap.size w0 w → CR_ 82 #[.int .u8 f, .int .u8 m, .slice sb 0 d] w (.bool true)) :
  CR_ 37 #[.int .u8 f, .int .u8 m, .slice sa 0 c, .slice sb 0 d] w0 (.tuple #[BV 0, .int .u8 0, .int .i64 0]) := by
 have H := Own.start w0
 go_enter Tryz.func37, Tryz.ntmps37
 go_wp2_with (first
  | ((with_reducible refine g18_ rfl rfl ?_); refine H.xa ?_; (intro gr w H; simp only [Act.put, q1_, q2_, q3_]))
  | ((with_reducible refine g15_ rfl rfl ?_); refine H.xa ?_; (intro gs w H; simp only [Act.put, q1_, q2_, q3_]))
  | ((with_reducible refine g0_ rfl ?_); refine H.xb ?_; (intro g w H; simp only [Act.put, q1_, q2_, q3_]))
  | ((with_reducible refine g1_ rfl ?_); refine H.xa ?_; (intro g w H; simp only [Act.put, q1_, q2_, q3_]))
  | ((with_reducible refine g2_ rfl ?_); (first | refine H.xl ?_ | refine H.xm ?_); simp only [Act.put, q1_, q2_, q3_])
  | ((with_reducible refine g3_ rfl ?_); (first | refine H.xs ?_ | refine H.xt ?_); (intro w H; simp only [Act.put]))
  | (go_at_call 82; (with_reducible first | refine H.kc (cX _ H.below) ?_ | refine H.kc (cY _ H.below) ?_); clear H; intro w H)
  )
 go_loopw [12, 13] (fun v i wr => i = .int .i64 0 ∧ v = .int .u8 0 ∧ Own w0 wr [(gs, 27, #[.int .u64 0, .int .u64 0]), (gr, 27, #[.int .u64 0, .int .u64 0])]) (fun _ i _ => 1)
 case atStart => exact ⟨rfl, rfl, H⟩
 case round =>
  clear H
  obtain ⟨rfl, rfl, H⟩ := hrel
  go_wp2_with (first
  | ((with_reducible refine g0_ rfl ?_); refine H.xb ?_; (intro g w H; simp only [Act.put, q1_, q2_, q3_]))
  | ((with_reducible refine g1_ rfl ?_); refine H.xa ?_; (intro g w H; simp only [Act.put, q1_, q2_, q3_]))
  | ((with_reducible refine g2_ rfl ?_); (first | refine H.xl ?_ | refine H.xm ?_); simp only [Act.put, q1_, q2_, q3_])
  | ((with_reducible refine g3_ rfl ?_); (first | refine H.xs ?_ | refine H.xt ?_); (intro w H; simp only [Act.put]))
  )
  all_goals
   refine bodyPost_ret (results_ctt rfl rfl (H.res rB v2_ v3_ (by rfl))) rfl ⟨?_, H.below⟩
   first | rfl | simp
theorem r15Dot_some (F : Nat → Nat → Nat → Nat × Nat × Int) (f m : Nat) (l r : List Nat) (g o h p n c d : Nat) (w0 : World) (hA : Bls w0 g o l) (hB : Bls w0 h p r) (hl : Hid (∀ b ∈ l, b < 2 ^ (64 * 2))) (hr : Hid (∀ b ∈ r, b < 2 ^ (64 * 2))) (hn : Hid (l.length = n)) (hm : Hid (r.length = n)) (hsm : n ≤ 60) (cX : ∀ w, Below w0.heap.size w0 w → CR_ 82 #[.int .u8 f, .int .u8 m, .slice (some ⟨g, o, none⟩) n c] w (.bool true)) (cY : ∀ w, Below w0.heap.size w0 w → CR_ 82 #[.int .u8 f, .int .u8 m, .slice (some ⟨h, p, none⟩) n d] w (.bool true)) (cA : ∀ a b c w, a < 2 ^ (64 * 2) → b < 2 ^ (64 * 2) → c < 2 ^ (64 * 2) → CR_ 34 #[.int .u8 f, .int .u8 m, BV a, BV b, BV c] w (.tuple #[BV (F a b c).1, .int .u8 ((F a b c).2.1 : Nat), .int .i64 (F a b c).2.2])) :
  CR_ 37 #[.int .u8 f, .int .u8 m, .slice (some ⟨g, o, none⟩) n c, .slice (some ⟨h, p, none⟩) n d] w0 (.tuple #[BV (dotF F (l.zip r)).1, .int .u8 (dotF F (l.zip r)).2, .int .i64 0]) := by
 obtain ⟨R, hR⟩ : ∃ R : Value, Hid (R = .tuple #[BV (dotF F (l.zip r)).1, .int .u8 (dotF F (l.zip r)).2, .int .i64 0]) := ⟨_, Lib.hid rfl⟩
 rw [← hR.out]
 have H := Own.start w0
 go_enter Tryz.func37, Tryz.ntmps37
 go_wp2_with (first
  | ((with_reducible refine g18_ rfl rfl ?_); refine H.xa ?_; (intro gr w H; simp only [Act.put, q1_, q2_, q3_]))
  | ((with_reducible refine g15_ rfl rfl ?_); refine H.xa ?_; (intro gs w H; simp only [Act.put, q1_, q2_, q3_]))
  | ((with_reducible refine g0_ rfl ?_); refine H.xb ?_; (intro g w H; simp only [Act.put, q1_, q2_, q3_]))
  | ((with_reducible refine g1_ rfl ?_); refine H.xa ?_; (intro g w H; simp only [Act.put, q1_, q2_, q3_]))
  | ((with_reducible refine g2_ rfl ?_); (first | refine H.xl ?_ | refine H.xm ?_); simp only [Act.put, q1_, q2_, q3_])
  | ((with_reducible refine g3_ rfl ?_); (first | refine H.xs ?_ | refine H.xt ?_); (intro w H; simp only [Act.put]))
  | (go_at_call 82; (with_reducible first | refine H.kc (cX _ H.below) ?_ | refine H.kc (cY _ H.below) ?_); clear H; intro w H)
  )
 go_loopw [12, 13] (fun v i wr => ∃ j s : Nat, ∃ q : Int, j ≤ n ∧ i = .int .i64 j ∧ v = .int .u8 q ∧ Hid ((s, q) = dotF F ((l.zip r).take j)) ∧ Own w0 wr [(gs, 27, bc s), (gr, 27, #[.int .u64 0, .int .u64 0])]) (fun _ i _ => n + 1 - (intOf i).toNat)
 case atStart => exact ⟨0, 0, 0, by omega, rfl, rfl, (rfl : ((0 : Nat), (0 : Int)) = dotF F ((l.zip r).take 0)), H⟩
 case round =>
  clear H
  obtain ⟨j, s, q, hj, rfl, rfl, hs, H⟩ := hrel
  by_cases hlt : j < n
  ·obtain ⟨a, ha⟩ : ∃ a, l[j]? = some a := ⟨_, List.getElem?_eq_getElem (by rw [hn.out]; exact hlt)⟩
   obtain ⟨b, hb⟩ : ∃ b, r[j]? = some b := ⟨_, List.getElem?_eq_getElem (by rw [hm.out]; exact hlt)⟩
   have hd2 : decide ((j : Int) < (n : Int)) = true := by simp; omega
   have hslt : s < 2 ^ (64 * 2) := by have := dotF_lt F ((l.zip r).take j); rw [← hs.out] at this; exact this
   have cAb := fun w => cA a b s w (hl.out a (List.mem_of_getElem? ha)) (hr.out b (List.mem_of_getElem? hb)) hslt
   have h1 := Lib.hid (dotF_next F l r j a b ha hb)
   clear hslt
   go_wp2_with (first
  | ((with_reducible refine g0_ rfl ?_); refine H.xb ?_; (intro g w H; simp only [Act.put, q1_, q2_, q3_]))
  | ((with_reducible refine g1_ rfl ?_); refine H.xa ?_; (intro g w H; simp only [Act.put, q1_, q2_, q3_]))
  | ((with_reducible refine g2_ rfl ?_); (first | refine H.xl ?_ | refine H.xm ?_); simp only [Act.put, q1_, q2_, q3_])
  | ((with_reducible refine g3_ rfl ?_); (first | refine H.xs ?_ | refine H.xt ?_); (intro w H; simp only [Act.put]))
  | ((with_reducible show Code.wp _ (.region 8 _ true) _ _ _); refine H.heldSub rfl (List.Sublist.refl _) ?_; intro H; refine H.zr 0 ?_; (try simp only [Act.put, q1_, q2_, q3_]); (try simp only [q4_, q5_, q6_]); refine H.zr 1 ?_; (try simp only [Act.put, q1_, q2_, q3_]); (try simp only [q4_, q5_, q6_]); refine H.zr 2 ?_; (try simp only [Act.put, q1_, q2_, q3_]); (try simp only [q4_, q5_, q6_]); refine H.zr 3 ?_; (try simp only [Act.put, q1_, q2_, q3_]); (try simp only [q4_, q5_, q6_]); refine H.zr 4 ?_ (hv := by intro w; go_simp; first | with_reducible rfl | (rw [if_pos (by omega)])); (try simp only [Act.put, q1_, q2_, q3_]); (try simp only [q4_, q5_, q6_]); refine H.zle 5 hA ha ?_; (try simp only [Act.put, q1_, q2_, q3_]); (try simp only [q4_, q5_, q6_]); refine H.zr 6 ?_; (try simp only [Act.put, q1_, q2_, q3_]); (try simp only [q4_, q5_, q6_]); refine H.zr 7 ?_; (try simp only [Act.put, q1_, q2_, q3_]); (try simp only [q4_, q5_, q6_]); refine H.zr 8 ?_ (hv := by intro w; go_simp; first | with_reducible rfl | (rw [if_pos (by omega)])); (try simp only [Act.put, q1_, q2_, q3_]); (try simp only [q4_, q5_, q6_]); refine H.zle 9 hB hb ?_; (try simp only [Act.put, q1_, q2_, q3_]); (try simp only [q4_, q5_, q6_]); (first | refine H.zl 10 ?_ | refine H.zm 10 ?_); (try simp only [Act.put, q1_, q2_, q3_]); (try simp only [q4_, q5_, q6_]); refine held2 11 16 ?_ ?_; (unfold Oper.wp; go_simp; (go_at_call 34; (with_reducible refine H.kc (cAb _) ?_; clear H; intro w H)); refine H.nx ?_; (try simp only [Act.put, q1_, q2_, q3_]); (try simp only [q4_, q5_, q6_]); refine H.zr 12 ?_; (try simp only [Act.put, q1_, q2_, q3_]); (try simp only [q4_, q5_, q6_]); refine H.zr 13 ?_; (try simp only [Act.put, q1_, q2_, q3_]); (try simp only [q4_, q5_, q6_]); refine H.zr 14 ?_; (try simp only [Act.put, q1_, q2_, q3_]); (try simp only [q4_, q5_, q6_]); refine H.zr 15 ?_; (try simp only [Act.put, q1_, q2_, q3_]); (try simp only [q4_, q5_, q6_]); refine held1 16 ?_; refine H.ya ?_; intro g w H; refine H.nx ?_; (try simp only [Act.put, q1_, q2_, q3_]); (try simp only [q4_, q5_, q6_]); refine held1 17 ?_; (first | refine H.ys ?_ | refine H.yt ?_); intro w H; refine H.nx ?_; (try simp only [Act.put]); refine H.zr 18 ?_; (try simp only [Act.put, q1_, q2_, q3_]); (try simp only [q4_, q5_, q6_]); refine H.zr 19 ?_; (try simp only [Act.put, q1_, q2_, q3_]); (try simp only [q4_, q5_, q6_]); refine wpAnyH_done (by kernel_rfl) ?_ _); rotate_left; (refine H.ya ?_; intro g w H; refine H.nx ?_; (try simp only [Act.put, q1_, q2_, q3_]); (try simp only [q4_, q5_, q6_]); refine held1 11 ?_; unfold Oper.wp; go_simp; (go_at_call 34; (with_reducible refine H.kc (cAb _) ?_; clear H; intro w H)); refine H.nx ?_; (try simp only [Act.put, q1_, q2_, q3_]); (try simp only [q4_, q5_, q6_]); refine H.zr 12 ?_; (try simp only [Act.put, q1_, q2_, q3_]); (try simp only [q4_, q5_, q6_]); refine H.zr 13 ?_; (try simp only [Act.put, q1_, q2_, q3_]); (try simp only [q4_, q5_, q6_]); refine H.zr 14 ?_; (try simp only [Act.put, q1_, q2_, q3_]); (try simp only [q4_, q5_, q6_]); refine H.zr 15 ?_; (try simp only [Act.put, q1_, q2_, q3_]); (try simp only [q4_, q5_, q6_]); refine held1 17 ?_; (first | refine H.ys ?_ | refine H.yt ?_); intro w H; refine H.nx ?_; (try simp only [Act.put]); refine H.zr 18 ?_; (try simp only [Act.put, q1_, q2_, q3_]); (try simp only [q4_, q5_, q6_]); refine H.zr 19 ?_; (try simp only [Act.put, q1_, q2_, q3_]); (try simp only [q4_, q5_, q6_]); refine wpAnyH_done (by kernel_rfl) ?_ _))
  )
   all_goals
    go_roundw
    case rel => exact ⟨j + 1, (F a b s).1 % 2 ^ (64 * 2), Go.bits .or .u8 q ((F a b s).2.1 : Nat), by omega, by go_num, rfl, (by show _ = dotF F _; rw [h1.out, ← hs.out]; rfl), (by have := bv_mod (F a b s).1; injection this with e; unfold bc; rw [e]; exact H.sub (by repeat (first | with_reducible exact List.Sublist.refl _ | with_reducible apply List.Sublist.cons_cons | with_reducible apply List.Sublist.cons)))⟩
    case measure => first | (simp [intOf]; omega) | simp [intOf]
  ·obtain rfl : j = n := by omega
   have hd2 : decide ((j : Int) < (j : Int)) = false := by simp
   have h2 := hs.out
   rw [List.take_of_length_le (by rw [List.length_zip, hn.out, hm.out]; omega)] at h2
   have h3 := Lib.hid h2
   clear h2 hs
   go_wp2_with (first
  | ((with_reducible refine g0_ rfl ?_); refine H.xb ?_; (intro g w H; simp only [Act.put, q1_, q2_, q3_]))
  | ((with_reducible refine g1_ rfl ?_); refine H.xa ?_; (intro g w H; simp only [Act.put, q1_, q2_, q3_]))
  | ((with_reducible refine g2_ rfl ?_); (first | refine H.xl ?_ | refine H.xm ?_); simp only [Act.put, q1_, q2_, q3_])
  | ((with_reducible refine g3_ rfl ?_); (first | refine H.xs ?_ | refine H.xt ?_); (intro w H; simp only [Act.put]))
  )
   all_goals
    refine bodyPost_ret (results_ctt rfl rfl (H.res rB v2_ v3_ (by rfl))) rfl ⟨?_, H.below⟩
    rw [hR.out, ← h3.out]
    rfl
end Go.Proofs.YtgmhmpflmgfcdaaGreatDoor
