/- Part 7 of the proof. -/
import Derived.Test.YtgmhmpflmgfcdaaGreatDoorHm1
import Derived.Test.YtgmhmpflmgfcdaaGreatDoorHm2
import Derived.Test.YtgmhmpflmgfcdaaGreatDoorHm4
import Derived.Test.YtgmhmpflmgfcdaaGreatDoorHm5
import Derived.Test.YtgmhmpflmgfcdaaGreatDoorHm6
set_option linter.unusedSimpArgs false
set_option linter.unusedVariables false
set_option linter.unnecessarySimpa false
set_option maxRecDepth 100000
set_option maxHeartbeats 3200000
namespace Go.Proofs.YtgmhmpflmgfcdaaGreatDoor
open Go.RowKit
theorem set_lowR (V k : Nat) (hk : k < 6) : setRow (limbs (V % 2 ^ (64 * k))) k (#[.int .u64 (limb V k)] : Array Value).toList = limbs (V % 2 ^ (64 * (k + 1))) := by
 rw [mod_low]; exact limbs_put _ _ k hk (Nat.mod_lt _ (pw_pos k)) (limbN_lt V k)
theorem add_word (a b k : Nat) : addW (limb a k) (limb b k) (cbit a b k) = limb (a + b) k := by
 unfold limb
 rw [addW_nat]
 have h := sum_step a b k
 rw [mod_low] at h
 have := Nat.add_left_cancel h
 have := Nat.eq_of_mul_eq_mul_right (pw_pos k) this
 rw [this]
theorem car_word (a b k : Nat) : carW (limb a k) (limb b k) (cbit a b k) = cbit a b (k + 1) := by
 unfold limb
 rw [carW_nat, cbit_step]
theorem r2Of_any (x : Nat) (w : World) (hx : x < 18446744073709551616) :
  CR_ 165 #[.int .u64 x] w (W x) := by
 have H := Own.start w
 have HR := Lib.hid (show W (limbN x 0) = W x by rw [show limbN x 0 = x by unfold limbN; rw [Nat.mul_zero, Nat.pow_zero, Nat.div_one, Nat.mod_eq_of_lt hx]])
 have hl : (x : Int) = limb x 0 := by unfold limb limbN; rw [Nat.mul_zero, Nat.pow_zero, Nat.div_one, Nat.mod_eq_of_lt hx]
 rw [hl]
 clear hx hl
 go_enter Tryz.func165, Tryz.ntmps165
 exact walk3
theorem r2Add_any (a b : Nat) (w0 : World) :
  CR_ 217 #[W a, W b] w0 (.tuple #[W (a + b), .bool (cbit a b 6)]) := by
 have H := Own.start w0
 go_enter Tryz.func217, Tryz.ntmps217
 go_wp2_with (first
  | ((with_reducible refine g6_ rfl rfl ?_); refine H.xb ?_; (intro ga w H; simp only [Act.put, q1_, q2_, q3_]))
  | ((with_reducible refine g10_ rfl rfl ?_); refine H.xb ?_; (intro gb w H; simp only [Act.put, q1_, q2_, q3_]))
  | ((with_reducible refine g5_ rfl rfl ?_); refine H.xa ?_; (intro gr w H; simp only [Act.put, q1_, q2_, q3_]))
  | ((with_reducible refine g8_ rfl rfl ?_); refine H.xa ?_; (intro gs w H; simp only [Act.put, q1_, q2_, q3_]))
  | ((with_reducible refine g0_ rfl ?_); refine H.xb ?_; (intro g w H; simp only [Act.put, q1_, q2_, q3_]))
  | ((with_reducible refine g1_ rfl ?_); refine H.xa ?_; (intro g w H; simp only [Act.put, q1_, q2_, q3_]))
  | ((with_reducible refine g2_ rfl ?_); (first | refine H.xl ?_ | refine H.xm ?_); simp only [Act.put, q1_, q2_, q3_])
  | ((with_reducible refine g3_ rfl ?_); (first | refine H.xs ?_ | refine H.xt ?_); (intro w H; simp only [Act.put]))
  | (go_at_call 230; (with_reducible refine H.kc (cS _) ?_; clear H; intro w H))
  )
 go_loopw [7, 8] (fun cv iv wr => ∃ (k : Nat), k ≤ 6 ∧ iv = .int .i64 k ∧ cv = .bool (cbit a b k) ∧ Own w0 wr [(gs, 60, limbs ((a + b) % 2 ^ (64 * k))), (gr, 60, limbs 0), (gb, 60, limbs b), (ga, 60, limbs a)]) (fun _ i _ => 6 - (intOf i).toNat)
 case atStart => exact ⟨0, by omega, rfl, by rw [cbit_zero], by rw [Nat.mul_zero, Nat.pow_zero, Nat.mod_one]; exact H⟩
 case round =>
  clear H
  obtain ⟨k, hk, rfl, rfl, H⟩ := hrel
  by_cases hlt : k < 6
  ·have hlti : (k : Int) < 6 := by omega
   have G1 : (limbs a)[k]? = some (.int .u64 (limb a k)) := limbs_get a k hlt
   have G2 : (limbs b)[k]? = some (.int .u64 (limb b k)) := limbs_get b k hlt
   have cS := fun w => r1Add_any (limb a k) (limb b k) (cbit a b k) w (limb_w a k) (limb_w b k)
   rw [add_word, car_word] at cS
   go_wp2_with (first
  | ((with_reducible refine g6_ rfl rfl ?_); refine H.xb ?_; (intro ga w H; simp only [Act.put, q1_, q2_, q3_]))
  | ((with_reducible refine g10_ rfl rfl ?_); refine H.xb ?_; (intro gb w H; simp only [Act.put, q1_, q2_, q3_]))
  | ((with_reducible refine g5_ rfl rfl ?_); refine H.xa ?_; (intro gr w H; simp only [Act.put, q1_, q2_, q3_]))
  | ((with_reducible refine g8_ rfl rfl ?_); refine H.xa ?_; (intro gs w H; simp only [Act.put, q1_, q2_, q3_]))
  | ((with_reducible refine g7_ rfl ?_); refine H.xm ?_ (hv := by first | with_reducible exact G1 | with_reducible exact G2); simp only [Act.put, q1_, q2_, q3_])
  | ((with_reducible refine g9_ rfl ?_); refine H.xt ?_ (hv := set_lowR _ _ hlt); (intro w H; simp only [Act.put]))
  | ((with_reducible refine g0_ rfl ?_); refine H.xb ?_; (intro g w H; simp only [Act.put, q1_, q2_, q3_]))
  | ((with_reducible refine g1_ rfl ?_); refine H.xa ?_; (intro g w H; simp only [Act.put, q1_, q2_, q3_]))
  | ((with_reducible refine g2_ rfl ?_); (first | refine H.xl ?_ | refine H.xm ?_); simp only [Act.put, q1_, q2_, q3_])
  | ((with_reducible refine g3_ rfl ?_); (first | refine H.xs ?_ | refine H.xt ?_); (intro w H; simp only [Act.put]))
  | ((with_reducible show Code.wp _ (.region 6 _ true) _ _ _); refine H.heldSub rfl (List.Sublist.refl _) ?_; intro H; refine H.zr 0 ?_; (try simp only [Act.put, q1_, q2_, q3_]); (try simp only [q4_, q5_, q6_]); refine H.zr 1 ?_; (try simp only [Act.put, q1_, q2_, q3_]); (try simp only [q4_, q5_, q6_]); (first | refine H.zm 2 ?_ (hv := by first | with_reducible exact G1 | with_reducible exact G2) | refine H.zl 2 ?_ | refine H.zm 2 ?_); (try simp only [Act.put, q1_, q2_, q3_]); (try simp only [q4_, q5_, q6_]); refine H.zr 3 ?_; (try simp only [Act.put, q1_, q2_, q3_]); (try simp only [q4_, q5_, q6_]); refine H.zr 4 ?_; (try simp only [Act.put, q1_, q2_, q3_]); (try simp only [q4_, q5_, q6_]); (first | refine H.zm 5 ?_ (hv := by first | with_reducible exact G1 | with_reducible exact G2) | refine H.zl 5 ?_ | refine H.zm 5 ?_); (try simp only [Act.put, q1_, q2_, q3_]); (try simp only [q4_, q5_, q6_]); refine H.zr 6 ?_; (try simp only [Act.put, q1_, q2_, q3_]); (try simp only [q4_, q5_, q6_]); refine held1 7 ?_; unfold Oper.wp; go_simp; (go_at_call 230; (with_reducible refine H.kc (cS _) ?_; clear H; intro w H)); refine H.nx ?_; (try simp only [Act.put, q1_, q2_, q3_]); (try simp only [q4_, q5_, q6_]); refine H.zr 8 ?_; (try simp only [Act.put, q1_, q2_, q3_]); (try simp only [q4_, q5_, q6_]); refine H.zr 9 ?_; (try simp only [Act.put, q1_, q2_, q3_]); (try simp only [q4_, q5_, q6_]); refine H.zr 10 ?_; (try simp only [Act.put, q1_, q2_, q3_]); (try simp only [q4_, q5_, q6_]); refine H.zr 11 ?_; (try simp only [Act.put, q1_, q2_, q3_]); (try simp only [q4_, q5_, q6_]); refine H.zr 12 ?_; (try simp only [Act.put, q1_, q2_, q3_]); (try simp only [q4_, q5_, q6_]); refine wpAnyH_done (by kernel_rfl) ?_ _)
  | (go_at_call 230; (with_reducible refine H.kc (cS _) ?_; clear H; intro w H))
  )
   all_goals
    go_roundw
    case rel => exact ⟨k + 1, by omega, by go_num, rfl, H⟩
    case measure => simp [intOf] <;> omega
  ·obtain rfl : k = 6 := by omega
   rw [← top6.eq_1, limbs_mod] at H
   clear hlt hk
   go_wp2_with (first
  | ((with_reducible refine g6_ rfl rfl ?_); refine H.xb ?_; (intro ga w H; simp only [Act.put, q1_, q2_, q3_]))
  | ((with_reducible refine g10_ rfl rfl ?_); refine H.xb ?_; (intro gb w H; simp only [Act.put, q1_, q2_, q3_]))
  | ((with_reducible refine g5_ rfl rfl ?_); refine H.xa ?_; (intro gr w H; simp only [Act.put, q1_, q2_, q3_]))
  | ((with_reducible refine g8_ rfl rfl ?_); refine H.xa ?_; (intro gs w H; simp only [Act.put, q1_, q2_, q3_]))
  | ((with_reducible refine g0_ rfl ?_); refine H.xb ?_; (intro g w H; simp only [Act.put, q1_, q2_, q3_]))
  | ((with_reducible refine g1_ rfl ?_); refine H.xa ?_; (intro g w H; simp only [Act.put, q1_, q2_, q3_]))
  | ((with_reducible refine g2_ rfl ?_); (first | refine H.xl ?_ | refine H.xm ?_); simp only [Act.put, q1_, q2_, q3_])
  | ((with_reducible refine g3_ rfl ?_); (first | refine H.xs ?_ | refine H.xt ?_); (intro w H; simp only [Act.put]))
  | (go_at_call 230; (with_reducible refine H.kc (cS _) ?_; clear H; intro w H))
  )
   refine bodyPost_ret (results_ct rfl rfl (H.res rW v2_ (ext_limbs _) (by rfl))) rfl ⟨?_, H.below⟩
   rfl
theorem r2Left_any (a : Nat) (x : Int) (w0 : World) (ha : a < top6) :
  CR_ 164 #[W a, .int .i64 x] w0 (.tuple #[W (a * 2 ^ clip x), .bool (decide (top6 ≤ a * 2 ^ clip x))]) := by
 have H := Own.start w0
 have cC := fun w => r2Count_any x w
 obtain ⟨n, hn⟩ : ∃ n, clip x = n := ⟨_, rfl⟩
 have hn4 : n ≤ 384 := by unfold clip at hn; omega
 rw [hn] at cC ⊢
 clear hn
 have HA := Lib.hid ha
 clear ha
 go_enter Tryz.func164, Tryz.ntmps164
 go_wp2_with (first
  | ((with_reducible refine g6_ rfl rfl ?_); refine H.xb ?_; (intro ga w H; simp only [Act.put, q1_, q2_, q3_]))
  | ((with_reducible refine g5_ rfl rfl ?_); refine H.xa ?_; (intro gr w H; simp only [Act.put, q1_, q2_, q3_]))
  | ((with_reducible refine g8_ rfl rfl ?_); refine H.xa ?_; (intro gb w H; simp only [Act.put, q1_, q2_, q3_]))
  | ((with_reducible refine g0_ rfl ?_); refine H.xb ?_; (intro g w H; simp only [Act.put, q1_, q2_, q3_]))
  | ((with_reducible refine g1_ rfl ?_); refine H.xa ?_; (intro g w H; simp only [Act.put, q1_, q2_, q3_]))
  | ((with_reducible refine g2_ rfl ?_); (first | refine H.xl ?_ | refine H.xm ?_); simp only [Act.put, q1_, q2_, q3_])
  | ((with_reducible refine g3_ rfl ?_); (first | refine H.xs ?_ | refine H.xt ?_); (intro w H; simp only [Act.put]))
  | (go_at_call 216; (with_reducible refine H.kc (cC _) ?_; clear H; intro w H))
  | (go_at_call 192; (with_reducible refine H.kc (cB _) ?_; clear H; intro w H))
  )
 go_loopw [7, 8] (fun l i wr => ∃ (k : Nat), k ≤ 384 ∧ i = .int .i64 k ∧ l = .bool (lostLi a n k) ∧ Own w0 wr [(gb, 60, limbs (leftV a n k)), (gr, 60, limbs 0), (ga, 60, limbs a)]) (fun _ i _ => 384 - (intOf i).toNat)
 case atStart => exact ⟨0, by omega, rfl, by rw [lostLi_lo a n 0 (by omega)], by rw [leftV_zero]; exact H⟩
 case round =>
  clear H
  obtain ⟨k, hk, rfl, rfl, H⟩ := hrel
  by_cases hlt : k < 384
  ·have hlti : (k : Int) < 384 := by omega
   have cB := fun w => r2Bit_any a k w hlt
   cases hb : a.testBit k
   ·rw [hb] at cB
    have h1 := Lib.hid (lostLi_f a n k hb)
    have h2 := Lib.hid (leftV_f a n k hb)
    clear hb cC
    go_wp2_with (first
  | ((with_reducible refine g6_ rfl rfl ?_); refine H.xb ?_; (intro ga w H; simp only [Act.put, q1_, q2_, q3_]))
  | ((with_reducible refine g5_ rfl rfl ?_); refine H.xa ?_; (intro gr w H; simp only [Act.put, q1_, q2_, q3_]))
  | ((with_reducible refine g8_ rfl rfl ?_); refine H.xa ?_; (intro gb w H; simp only [Act.put, q1_, q2_, q3_]))
  | ((with_reducible refine g0_ rfl ?_); refine H.xb ?_; (intro g w H; simp only [Act.put, q1_, q2_, q3_]))
  | ((with_reducible refine g1_ rfl ?_); refine H.xa ?_; (intro g w H; simp only [Act.put, q1_, q2_, q3_]))
  | ((with_reducible refine g2_ rfl ?_); (first | refine H.xl ?_ | refine H.xm ?_); simp only [Act.put, q1_, q2_, q3_])
  | ((with_reducible refine g3_ rfl ?_); (first | refine H.xs ?_ | refine H.xt ?_); (intro w H; simp only [Act.put]))
  | (go_at_call 216; (with_reducible refine H.kc (cC _) ?_; clear H; intro w H))
  | (go_at_call 192; (with_reducible refine H.kc (cB _) ?_; clear H; intro w H))
  )
    all_goals
     go_roundw
     case rel => exact ⟨k + 1, by omega, by go_num, by rw [h1.out], by rw [h2.out]; exact H⟩
     case measure => simp [intOf] <;> omega
   ·rw [hb] at cB
    by_cases hnk : k + n < 384
    ·have h1 := Lib.hid (show lostLi a n (k + 1) = lostLi a n k by rw [lostLi_lo a n (k + 1) (by omega), lostLi_lo a n k (by omega)])
     have h2 := Lib.hid (leftV_t a n k hb hnk).1
     have h3 := Lib.hid (leftV_t a n k hb hnk).2
     obtain ⟨j, hj⟩ : ∃ j, k + n = j := ⟨_, rfl⟩
     have e0 : (k : Int) + (n : Int) = (j : Int) := by omega
     have e1 : IntKind.i64.wrap ((k : Int) + (n : Int)) = (j : Int) := by rw [e0]; exact IntWalk.i64_in _ (by omega)
     have hge : (j : Int) < 384 := by omega
     have hge2 : (k : Int) + (n : Int) < 384 := by omega
     obtain ⟨qi, hqi⟩ : ∃ qi : Nat, (j : Int) / 64 = qi := ⟨j / 64, by omega⟩
     obtain ⟨sh, hsh⟩ : ∃ sh : Nat, (j : Int) % 64 = sh := ⟨j % 64, by omega⟩
     have HM := Lib.hid (show j = 64 * qi + sh by omega)
     have hs64 : sh < 64 := by omega
     have hq6 : qi < 6 := by omega
     have hq6i : (qi : Int) < 6 := by omega
     have t1 : IntKind.i64.wrap ((j : Int).tdiv 64) = (qi : Int) := by rw [Int.tdiv_eq_ediv_of_nonneg (by omega), hqi]; exact IntWalk.i64_in _ (by omega)
     have t2 : (j : Int).tmod 64 = (sh : Int) := by rw [Int.tmod_eq_emod_of_nonneg (by omega), hsh]
     have t3 : IntKind.u64.wrap (sh : Int) = (sh : Int) := by rw [IntKind.wrap_u64]; omega
     have t4 : min sh 64 = sh := by omega
     rw [hj] at h2 h3
     obtain ⟨V, hV⟩ : ∃ V, leftV a n k = V := ⟨_, rfl⟩
     rw [hV] at H h2 h3
     have G : (limbs V)[qi]? = some (.int .u64 (limb V qi)) := limbs_get V qi hq6
     clear hV cC hb hj hnk
     go_wp2_with (first
  | ((with_reducible refine g6_ rfl rfl ?_); refine H.xb ?_; (intro ga w H; simp only [Act.put, q1_, q2_, q3_]))
  | ((with_reducible refine g5_ rfl rfl ?_); refine H.xa ?_; (intro gr w H; simp only [Act.put, q1_, q2_, q3_]))
  | ((with_reducible refine g8_ rfl rfl ?_); refine H.xa ?_; (intro gb w H; simp only [Act.put, q1_, q2_, q3_]))
  | ((with_reducible refine g7_ rfl ?_); refine H.xm ?_ (hv := by first | with_reducible exact G); simp only [Act.put, q1_, q2_, q3_])
  | ((with_reducible refine g9_ rfl ?_); refine H.xt ?_ (hv := set_bit_at _ _ _ _ h3.out HM.out hs64 hq6); (intro w H; simp only [Act.put]))
  | ((with_reducible refine g0_ rfl ?_); refine H.xb ?_; (intro g w H; simp only [Act.put, q1_, q2_, q3_]))
  | ((with_reducible refine g1_ rfl ?_); refine H.xa ?_; (intro g w H; simp only [Act.put, q1_, q2_, q3_]))
  | ((with_reducible refine g2_ rfl ?_); (first | refine H.xl ?_ | refine H.xm ?_); simp only [Act.put, q1_, q2_, q3_])
  | ((with_reducible refine g3_ rfl ?_); (first | refine H.xs ?_ | refine H.xt ?_); (intro w H; simp only [Act.put]))
  | (go_at_call 216; (with_reducible refine H.kc (cC _) ?_; clear H; intro w H))
  | (go_at_call 192; (with_reducible refine H.kc (cB _) ?_; clear H; intro w H))
  )
     all_goals
      go_roundw
      case rel => exact ⟨k + 1, by omega, by go_num, by rw [h1.out], by rw [h2.out]; exact H⟩
      case measure => simp [intOf] <;> omega
    ·have h1 := Lib.hid (lostLi_t a n k hb (by omega))
     have h2 := Lib.hid (leftV_o a n k hb (by omega))
     have hge : 384 ≤ (k : Int) + (n : Int) := by omega
     clear cC hb hnk
     go_wp2_with (first
  | ((with_reducible refine g6_ rfl rfl ?_); refine H.xb ?_; (intro ga w H; simp only [Act.put, q1_, q2_, q3_]))
  | ((with_reducible refine g5_ rfl rfl ?_); refine H.xa ?_; (intro gr w H; simp only [Act.put, q1_, q2_, q3_]))
  | ((with_reducible refine g8_ rfl rfl ?_); refine H.xa ?_; (intro gb w H; simp only [Act.put, q1_, q2_, q3_]))
  | ((with_reducible refine g0_ rfl ?_); refine H.xb ?_; (intro g w H; simp only [Act.put, q1_, q2_, q3_]))
  | ((with_reducible refine g1_ rfl ?_); refine H.xa ?_; (intro g w H; simp only [Act.put, q1_, q2_, q3_]))
  | ((with_reducible refine g2_ rfl ?_); (first | refine H.xl ?_ | refine H.xm ?_); simp only [Act.put, q1_, q2_, q3_])
  | ((with_reducible refine g3_ rfl ?_); (first | refine H.xs ?_ | refine H.xt ?_); (intro w H; simp only [Act.put]))
  | (go_at_call 216; (with_reducible refine H.kc (cC _) ?_; clear H; intro w H))
  | (go_at_call 192; (with_reducible refine H.kc (cB _) ?_; clear H; intro w H))
  )
     all_goals
      go_roundw
      case rel => exact ⟨k + 1, by omega, by go_num, by rw [h1.out], by rw [h2.out]; exact H⟩
      case measure => simp [intOf] <;> omega
  ·have hk384 : k = 384 := by omega
   have h1 := Lib.hid (lostLi_all a n k hk384 HA.out hn4)
   rw [leftV_all a n k hk384 HA.out, limbs_mod] at H
   generalize lostLi a n k = l at *
   subst hk384
   clear cC hlt hk
   go_wp2_with (first
  | ((with_reducible refine g6_ rfl rfl ?_); refine H.xb ?_; (intro ga w H; simp only [Act.put, q1_, q2_, q3_]))
  | ((with_reducible refine g5_ rfl rfl ?_); refine H.xa ?_; (intro gr w H; simp only [Act.put, q1_, q2_, q3_]))
  | ((with_reducible refine g8_ rfl rfl ?_); refine H.xa ?_; (intro gb w H; simp only [Act.put, q1_, q2_, q3_]))
  | ((with_reducible refine g0_ rfl ?_); refine H.xb ?_; (intro g w H; simp only [Act.put, q1_, q2_, q3_]))
  | ((with_reducible refine g1_ rfl ?_); refine H.xa ?_; (intro g w H; simp only [Act.put, q1_, q2_, q3_]))
  | ((with_reducible refine g2_ rfl ?_); (first | refine H.xl ?_ | refine H.xm ?_); simp only [Act.put, q1_, q2_, q3_])
  | ((with_reducible refine g3_ rfl ?_); (first | refine H.xs ?_ | refine H.xt ?_); (intro w H; simp only [Act.put]))
  | (go_at_call 216; (with_reducible refine H.kc (cC _) ?_; clear H; intro w H))
  | (go_at_call 192; (with_reducible refine H.kc (cB _) ?_; clear H; intro w H))
  )
   refine bodyPost_ret (results_ct rfl rfl (H.res rW v2_ (ext_limbs _) (by rfl))) rfl ⟨?_, H.below⟩
   rw [h1.out]; rfl
theorem r2Len_any (a : Nat) (w0 : World) (ha : a < top6) :
  CR_ 125 #[W a] w0 (.int .i64 (lenN a : Nat)) := by
 have H := Own.start w0
 have HA := Lib.hid ha
 clear ha
 go_enter Tryz.func125, Tryz.ntmps125
 go_wp2_with (first
  | ((with_reducible refine g12_ rfl rfl ?_); refine H.xb ?_; (intro ga w H; simp only [Act.put, q1_, q2_, q3_]))
  | ((with_reducible refine g0_ rfl ?_); refine H.xb ?_; (intro g w H; simp only [Act.put, q1_, q2_, q3_]))
  | ((with_reducible refine g1_ rfl ?_); refine H.xa ?_; (intro g w H; simp only [Act.put, q1_, q2_, q3_]))
  | ((with_reducible refine g2_ rfl ?_); (first | refine H.xl ?_ | refine H.xm ?_); simp only [Act.put, q1_, q2_, q3_])
  | ((with_reducible refine g3_ rfl ?_); (first | refine H.xs ?_ | refine H.xt ?_); (intro w H; simp only [Act.put]))
  | (go_at_call 191; (with_reducible refine H.kc (cL _) ?_; clear H; intro w H))
  )
 go_loopw [3] (fun i wr => ∃ (k : Nat) (e : Int), e + 1 = k ∧ k ≤ 6 ∧ i = .int .i64 e ∧ Hid (a < 2 ^ (64 * k)) ∧ Own w0 wr [(ga, 60, limbs a)]) (fun i _ => (intOf i + 1).toNat)
 case atStart => exact ⟨6, 5, by omega, by omega, rfl, Lib.hid (by rw [← top6.eq_1]; exact HA.out), H⟩
 case round =>
  clear H
  obtain ⟨k, e, hke, hk, rfl, hT, H⟩ := hrel
  by_cases h0 : k = 0
  ·subst h0
   obtain rfl : e = -1 := by omega
   have hz : a = 0 := by have := hT.out; rw [Nat.mul_zero, Nat.pow_zero] at this; omega
   subst hz
   go_wp2_with (first
  | ((with_reducible refine g12_ rfl rfl ?_); refine H.xb ?_; (intro ga w H; simp only [Act.put, q1_, q2_, q3_]))
  | ((with_reducible refine g0_ rfl ?_); refine H.xb ?_; (intro g w H; simp only [Act.put, q1_, q2_, q3_]))
  | ((with_reducible refine g1_ rfl ?_); refine H.xa ?_; (intro g w H; simp only [Act.put, q1_, q2_, q3_]))
  | ((with_reducible refine g2_ rfl ?_); (first | refine H.xl ?_ | refine H.xm ?_); simp only [Act.put, q1_, q2_, q3_])
  | ((with_reducible refine g3_ rfl ?_); (first | refine H.xs ?_ | refine H.xt ?_); (intro w H; simp only [Act.put]))
  | (go_at_call 191; (with_reducible refine H.kc (cL _) ?_; clear H; intro w H))
  )
   go_ret
   exact ⟨rfl, H.below⟩
  ·obtain ⟨m, rfl⟩ : ∃ m, k = m + 1 := ⟨k - 1, by omega⟩
   obtain rfl : e = (m : Int) := by omega
   have hm : m < 6 := by omega
   have hmi : (m : Int) < 6 := by omega
   have hm0 : (0 : Int) ≤ (m : Int) := by omega
   have G : (limbs a)[m]? = some (.int .u64 (limb a m)) := limbs_get a m hm
   by_cases hz : limbN a m = 0
   ·have h1 := Lib.hid (top_zero a m hT.out hz)
    have z : limb a m = 0 := by unfold limb; rw [hz]; rfl
    rw [z] at G
    clear hT hz h0
    go_wp2_with (first
  | ((with_reducible refine g12_ rfl rfl ?_); refine H.xb ?_; (intro ga w H; simp only [Act.put, q1_, q2_, q3_]))
  | ((with_reducible refine g7_ rfl ?_); refine H.xm ?_ (hv := by first | with_reducible exact G); simp only [Act.put, q1_, q2_, q3_])
  | ((with_reducible refine g0_ rfl ?_); refine H.xb ?_; (intro g w H; simp only [Act.put, q1_, q2_, q3_]))
  | ((with_reducible refine g1_ rfl ?_); refine H.xa ?_; (intro g w H; simp only [Act.put, q1_, q2_, q3_]))
  | ((with_reducible refine g2_ rfl ?_); (first | refine H.xl ?_ | refine H.xm ?_); simp only [Act.put, q1_, q2_, q3_])
  | ((with_reducible refine g3_ rfl ?_); (first | refine H.xs ?_ | refine H.xt ?_); (intro w H; simp only [Act.put]))
  | (go_at_call 191; (with_reducible refine H.kc (cL _) ?_; clear H; intro w H))
  )
    all_goals
     go_roundw
     case rel => exact ⟨m, (m : Int) - 1, by omega, by omega, by go_num, h1, H⟩
     case measure => simp [intOf] <;> omega
   ·have h1 := Lib.hid (lenN_top a m hT.out hz)
    have cL := fun w => r1Len_any (limbN a m) w (limbN_lt a m)
    have hl : ((limbN a m : Nat) : Int) = limb a m := rfl
    rw [hl] at cL
    have z : (limb a m != 0) = true := by unfold limb; simpa using hz
    have hb : lenN (limbN a m) ≤ 64 := (lenN_le _ _).2 (by rw [← B64]; exact limbN_lt a m)
    generalize lenN (limbN a m) = l at *
    clear hT hz h0 hl
    go_wp2_with (first
  | ((with_reducible refine g12_ rfl rfl ?_); refine H.xb ?_; (intro ga w H; simp only [Act.put, q1_, q2_, q3_]))
  | ((with_reducible refine g7_ rfl ?_); refine H.xm ?_ (hv := by first | with_reducible exact G); simp only [Act.put, q1_, q2_, q3_])
  | ((with_reducible refine g0_ rfl ?_); refine H.xb ?_; (intro g w H; simp only [Act.put, q1_, q2_, q3_]))
  | ((with_reducible refine g1_ rfl ?_); refine H.xa ?_; (intro g w H; simp only [Act.put, q1_, q2_, q3_]))
  | ((with_reducible refine g2_ rfl ?_); (first | refine H.xl ?_ | refine H.xm ?_); simp only [Act.put, q1_, q2_, q3_])
  | ((with_reducible refine g3_ rfl ?_); (first | refine H.xs ?_ | refine H.xt ?_); (intro w H; simp only [Act.put]))
  | (go_at_call 191; (with_reducible refine H.kc (cL _) ?_; clear H; intro w H))
  )
    go_ret
    exact ⟨by rw [h1.out]; first | rfl | go_num, H.below⟩
def partsAt : Array (Nat × Nat) := #[(0, 1), (1, 6), (7, 1), (8, 6)]
theorem places_parts (w : World) : ∃ fs, Tryz.prog.underlying 100 = some (.struct fs) ∧ (fs.mapM fun f => do pure (f.offset, ← sizeOf f.type) : Sem (Array (Nat × Nat))).run Tryz.prog w = .ok partsAt w := by
 refine ⟨_, Tryz.underlying100, ?_⟩
 unfold partsAt
 go_simp
theorem parts_0 (c s : Nat) (x : Int) (f c' : Nat) (rest : List (Nat × Value)) : Instr.fill (partsAt[·]?) (parts c s x f) ((0, .int .u8 c') :: rest) = Instr.fill (partsAt[·]?) (parts c' s x f) rest := fill_step _ _ 0 0 1 _ _ rfl rfl (show 0 + 1 ≤ 14 by decide)
theorem parts_c (c : Nat) (w : World) : (Instr.build 100 #[(0, .int .u8 c)]).run Tryz.prog w = .ok (PV c 0 0 0) w := by
 obtain ⟨fs, hu, hp⟩ := places_parts w
 exact run_build rP hu hp _ _ (by show Instr.fill _ _ [_] = _; rw [parts_0]; rfl)
theorem wp_bld1 {P : Program} {op : Oper} {a : Act} {Q : Exit → Act → World → Prop} {ops : Array Oper} {rest : List Oper} {w : World} {t : TypeId} {i : Nat} {x : Operand} (hw : Region.wanted op (yielded ops a.tmps) = true) (ho : op.op = .build t #[(i, x)]) {u1 : Value} (h1 : a.eval x = u1) {v : Value}
  (hv : ∀ w, (Instr.build t #[(i, u1)]).run P w = .ok v w) (h : wpList P ops Q rest (a.put op.dst v) w) : wpList P ops Q (op :: rest) a w :=
 wp_bld hw ho (by simp [h1]) hv h
theorem set_pwR (a b : Nat) (x : Int) (d c s : Nat) (y : Int) (f : Nat) : setRow (parts a b x d) 0 (parts c s y f).toList = parts c s y f := set_all _ _ rfl
theorem fits_len (f b : Nat) (hf : f < 4) : decide (lenN b ≤ wF f) = fitsB f b := by
 unfold fitsB; rw [decide_eq_true hf, Bool.true_and, decide_eq_decide]; exact lenN_le b _
theorem sign_normal (f b : Nat) (h : clsN f b = 1 ∨ clsN f b = 6) : sigN f b = 2 ^ (pF f - 1) + b % 2 ^ (pF f - 1) ∧ frN f b = 0 := by
 unfold sigN frN; rw [if_pos h, if_neg (by omega), Nat.add_comm]; exact ⟨rfl, rfl⟩
theorem r7Fits_no (f b : Nat) (w : World) (cR : CK_ 62 #[.int .u8 f] (.bool false)) :
  CR_ 48 #[.int .u8 f, BV b] w (.bool false) := by
 have H := Own.start w
 go_enter Tryz.func48, Tryz.ntmps48
 exact walk3
theorem r7Fits_yes (f b l n : Nat) (w : World) (cR : CK_ 62 #[.int .u8 f] (.bool true)) (cO : CK_ 126 #[BV b] (W b)) (cL : CK_ 125 #[W b] (.int .i64 (l : Nat))) (cW : CK_ 127 #[.int .u8 f] (.int .i64 (n : Nat))) :
  CR_ 48 #[.int .u8 f, BV b] w (.bool (decide (l ≤ n))) := by
 have H := Own.start w
 go_enter Tryz.func48, Tryz.ntmps48
 exact walk3
theorem r7Fits_any (f b : Nat) (w : World) (hb : b < 2 ^ (64 * 2)) :
  CR_ 48 #[.int .u8 f, BV b] w (.bool (fitsB f b)) := by
 have cR := fun w => r7Right_any f w
 by_cases hf : f < 4
 ·rw [decide_eq_true hf] at cR
  have h := r7Fits_yes f b (lenN b) (wF f) w cR (fun w => r2OfBits_any b w hb) (fun w => r2Len_any b w (lt_top_bits b hb)) (fun w => r7Width_any f w)
  rw [fits_len f b hf] at h
  exact h
 ·rw [decide_eq_false hf] at cR
  rw [show fitsB f b = false by unfold fitsB; rw [decide_eq_false hf]; rfl]
  exact r7Fits_no f b w cR
theorem r8IsNaN_w (f b c : Nat) (w : World) (cC : CK_ 129 #[.int .u8 f, BV b] (.int .u8 (c : Nat))) :
  CR_ 51 #[.int .u8 f, BV b] w (.bool (decide (8 ≤ (c : Int)))) := by
 have H := Own.start w
 go_enter Tryz.func51, Tryz.ntmps51
 exact walk3
theorem r8IsNaN_any (f b : Nat) (w : World) (hf : f < 4) (hb : b < 2 ^ (64 * 2)) :
  CR_ 51 #[.int .u8 f, BV b] w (.bool (nanB (clsN f b))) := by
 have h := r8IsNaN_w f b _ w (fun w => r8Class_any f b w hf hb)
 rw [show decide (8 ≤ (clsN f b : Int)) = nanB (clsN f b) by unfold nanB; rw [decide_eq_decide]; omega] at h
 exact h
theorem r8Sign_no (f b : Nat) (w : World) (cT : CK_ 48 #[.int .u8 f, BV b] (.bool false)) :
  CR_ 50 #[.int .u8 f, BV b] w (.bool false) := by
 have H := Own.start w
 go_enter Tryz.func50, Tryz.ntmps50
 exact walk3
theorem r8Sign_yes (f b e0 t : Nat) (neg : Bool) (w : World) (cT : CK_ 48 #[.int .u8 f, BV b] (.bool true)) (cF : CK_ 128 #[.int .u8 f, BV b] (.tuple #[.bool neg, .int .i64 (e0 : Nat), W t])) :
  CR_ 50 #[.int .u8 f, BV b] w (.bool neg) := by
 have H := Own.start w
 go_enter Tryz.func50, Tryz.ntmps50
 exact walk3
theorem r8Sign_any (f b : Nat) (w : World) (hb : b < 2 ^ (64 * 2)) :
  CR_ 50 #[.int .u8 f, BV b] w (.bool (fitsB f b && negN f b)) := by
 have cT := fun w => r7Fits_any f b w hb
 cases h : fitsB f b
 ·rw [h] at cT; exact r8Sign_no f b w cT
 ·rw [h] at cT
  have hf := ((fits_iff f b).1 h).1
  exact r8Sign_yes f b _ _ _ w cT (fun w => r7Fields_any f b w hf hb)
theorem pF_113 (f : Nat) : pF f ≤ 113 := by
 rcases forms f with rfl | rfl | rfl | rfl | h
 ·decide
 ·decide
 ·decide
 ·decide
 ·rw [(wF_big f h).2.1]; decide
theorem lt_pwr (T b c x : Nat) (h : T = 2 ^ c) (hb : b ≤ c) (hx : x < 2 ^ b) : x < T := by rw [h]; exact Nat.lt_of_lt_of_le hx (Nat.pow_le_pow_right (by decide) hb)
theorem gridN_le (m s p : Nat) (neg mo : Bool) (e at_ : Int) (h : (lenN s : Int) + e - at_ ≤ p) : (gridN m neg s e mo at_).1 ≤ 2 ^ p := by
 have hs := lenN_lt s
 unfold gridN
 by_cases hn : at_ ≤ e
 ·rw [if_pos hn]
  obtain ⟨d, hd⟩ : ∃ d, d = (e - at_).toNat := ⟨_, rfl⟩
  rw [← hd]
  have h1 : s * 2 ^ d ≤ 2 ^ lenN s * 2 ^ d := Nat.mul_le_mul_right _ (Nat.le_of_lt hs)
  rw [← Nat.pow_add] at h1
  exact Nat.le_trans h1 (Nat.pow_le_pow_right (by decide) (by omega))
 ·rw [if_neg hn]
  obtain ⟨d, hd⟩ : ∃ d, d = (at_ - e).toNat := ⟨_, rfl⟩
  rw [← hd]
  have h1 : s < 2 ^ (p + d) := Nat.lt_of_lt_of_le hs (Nat.pow_le_pow_right (by decide) (by omega))
  rw [Nat.pow_add] at h1
  have h2 : s / 2 ^ d < 2 ^ p := by
   rw [Nat.div_lt_iff_lt_mul (two_pos d)]; exact h1
  have h3 : ∀ b : Bool, s / 2 ^ d + cond b 1 0 ≤ 2 ^ p := by intro b; cases b <;> simp only [cond_true, cond_false] <;> omega
  exact h3 _
theorem lt_top114 (x p : Nat) (hp : p ≤ 113) (h : x ≤ 2 ^ p) : x < top6 :=
 lt_pwr top6 (p + 1) (64 * 6) x top6.eq_1 (by omega) (Nat.lt_of_le_of_lt h (Nat.pow_lt_pow_right (by decide) (by omega)))
theorem lenN_le_of (x p : Nat) (h : x ≤ 2 ^ p) : lenN x ≤ p + 1 := (lenN_le x (p + 1)).2 (Nat.lt_of_le_of_lt h (Nat.pow_lt_pow_right (by decide) (by omega)))
theorem enc_lt (f k : Nat) (d : Nat) (hf : f < 4) (hk : k ≤ 2 ^ pF f) (hd : d + 1 ≤ 2 * eF f) : d * 2 ^ (pF f - 1) + k < 2 ^ (wF f - 1) := by
 have hK := formK f hf
 rw [hK.2.1, Nat.pow_add, hK.2.2.1, Nat.mul_comm (2 ^ (pF f - 1))]
 have h2 : 2 ^ pF f = 2 * 2 ^ (pF f - 1) := by
  rw [show pF f = (pF f - 1) + 1 by omega, Nat.pow_succ, Nat.add_sub_cancel]; omega
 have := two_pos (pF f - 1)
 have h3 : (d + 3) * 2 ^ (pF f - 1) ≤ (2 * eF f + 2) * 2 ^ (pF f - 1) := Nat.mul_le_mul_right _ (by omega)
 rw [Nat.add_mul] at h3
 omega
theorem infB_cases (c : Nat) (h : infB c = true) : c = 0 ∨ c = 7 := by unfold infB at h; simpa using h
theorem sigN_113 (f a : Nat) (hf : fitsB f a = true) : sigN f a < 2 ^ 113 := by
 have h4 := ((fits_iff f a).1 hf).1
 have hp := pF_113 f
 rcases cls_sort f a with c | c | c | c
 ·unfold sigN; rw [if_neg (by omega), if_neg (by omega)]; exact two_pos 113
 ·unfold sigN; rw [if_neg (by omega), if_neg (by omega)]; exact two_pos 113
 ·unfold sigN; rw [if_neg (by omega), if_neg (by omega)]; exact two_pos 113
 ·have := (can_of f a hf c).1.lt
  exact Nat.lt_of_lt_of_le this (Nat.pow_le_pow_right (by decide) hp)
theorem xpN_bound (f a : Nat) (hf : fitsB f a = true) : -40000 ≤ xpN f a ∧ xpN f a ≤ 40000 := by
 have h4 := ((fits_iff f a).1 hf).1
 obtain ⟨h1, h2, h3, h5, h6, h7, h8, h9⟩ := formK f h4
 rcases cls_sort f a with c | c | c | c
 ·unfold xpN; rw [if_neg (by omega), if_neg (by omega)]; omega
 ·unfold xpN; rw [if_neg (by omega), if_neg (by omega)]; omega
 ·unfold xpN; rw [if_neg (by omega), if_neg (by omega)]; omega
 ·have hc := (can_of f a hf c).1
  have := hc.ge; have := hc.le; omega
theorem below_fits (f a : Nat) (h : fitsB f a = true) : a < 2 ^ (64 * 2) := by
 obtain ⟨h4, hb⟩ := (fits_iff f a).1 h
 exact Nat.lt_of_lt_of_le hb (Nat.pow_le_pow_right (by decide) (by have := (formB f h4).2.2.2.1; omega))
theorem canon_flag (b : Bool) : (cond b (16 : Int) 0) = ((cond b 16 0 : Nat) : Int) := by cases b <;> rfl
theorem w_zero : W 0 = .agg #[.int .u64 0, .int .u64 0, .int .u64 0, .int .u64 0, .int .u64 0, .int .u64 0] := by unfold W limbs; simp only [limb_zero]
theorem wide_z (w : World) : (Instr.build 60 #[]).run Tryz.prog w = .ok (W 0) w := by
 have hz := run_zeroValue (rW).zero w
 unfold Instr.build
 simp only [Sem.run_bind, hz, Result.andThen_ok, run_underlying Tryz.underlying60]
 go_simp
 try rfl
theorem set_bitsR (a b c d : Value) : setRow #[a, b] 0 (#[c, d] : Array Value).toList = #[c, d] := rfl
theorem r2ToBits_any (b : Nat) (w : World) (hb : b < 2 ^ (64 * 2)) :
  CR_ 218 #[W b] w (.tuple #[BV b, .bool true]) := by
 have H := Own.start w
 have hz : ∀ i, 2 ≤ i → limb b i = 0 := fun i hi => by
  unfold limb limbN
  rw [Nat.div_eq_of_lt (Nat.lt_of_lt_of_le hb (Nat.pow_le_pow_right (by decide) (by omega)))]; rfl
 have G2 : (limbs b)[2]? = some (.int .u64 0) := by rw [limbs_get b 2 (by decide), hz 2 (by decide)]
 have G3 : (limbs b)[3]? = some (.int .u64 0) := by rw [limbs_get b 3 (by decide), hz 3 (by decide)]
 have G4 : (limbs b)[4]? = some (.int .u64 0) := by rw [limbs_get b 4 (by decide), hz 4 (by decide)]
 have G5 : (limbs b)[5]? = some (.int .u64 0) := by rw [limbs_get b 5 (by decide), hz 5 (by decide)]
 clear hz hb
 go_enter Tryz.func218, Tryz.ntmps218
 go_wp2_with (first
  | ((with_reducible refine g7_ rfl ?_); refine H.xm ?_ (hv := by first | with_reducible exact G2 | with_reducible exact G3 | with_reducible exact G4 | with_reducible exact G5); simp only [Act.put, q1_, q2_, q3_])
  | ((with_reducible refine g0_ rfl ?_); refine H.xb ?_; (intro g w H; simp only [Act.put, q1_, q2_, q3_]))
  | ((with_reducible refine g1_ rfl ?_); refine H.xa ?_; (intro g w H; simp only [Act.put, q1_, q2_, q3_]))
  | ((with_reducible refine g2_ rfl ?_); (first | refine H.xl ?_ | refine H.xm ?_); simp only [Act.put, q1_, q2_, q3_])
  | ((with_reducible refine g3_ rfl ?_); (first | refine H.xs ?_ | refine H.xt ?_); (intro w H; simp only [Act.put]))
  )
 all_goals
  refine bodyPost_ret (results_ct rfl rfl (H.res rB v2_ v3_ (by rfl))) rfl ⟨?_, H.below⟩
  exact rfl
theorem r7Build_f (f e0 t p s u n s2 v b : Nat) (lo ca lo2 ca2 fb : Bool) (w : World) (hp : p ≤ 113) (h1p : 1 ≤ p) (hn : n ≤ 128) (h1n : 1 ≤ n) (he : IntKind.u64.wrap (e0 : Int) = (e0 : Int)) (cR : CK_ 62 #[.int .u8 f] (.bool true)) (cO : CK_ 165 #[.int .u64 (e0 : Nat)] (W e0)) (cP : CK_ 166 #[.int .u8 f] (.int .i64 (p : Nat))) (cL : CK_ 164 #[W e0, .int .i64 ((p : Int) - 1)] (.tuple #[W s, .bool lo])) (cA : CK_ 217 #[W s, W t] (.tuple #[W u, .bool ca])) (cB : CK_ 218 #[W u] (.tuple #[BV b, .bool fb])) :
  CR_ 167 #[.int .u8 f, .bool false, .int .i64 (e0 : Nat), W t] w (BV b) := by
 have H := Own.start w
 go_enter Tryz.func167, Tryz.ntmps167
 exact walk3
theorem r7Build_t (f e0 t p s u n s2 v b : Nat) (lo ca lo2 ca2 fb : Bool) (w : World) (hp : p ≤ 113) (h1p : 1 ≤ p) (hn : n ≤ 128) (h1n : 1 ≤ n) (he : IntKind.u64.wrap (e0 : Int) = (e0 : Int)) (cR : CK_ 62 #[.int .u8 f] (.bool true)) (cO : CK_ 165 #[.int .u64 (e0 : Nat)] (W e0)) (cP : CK_ 166 #[.int .u8 f] (.int .i64 (p : Nat))) (cL : CK_ 164 #[W e0, .int .i64 ((p : Int) - 1)] (.tuple #[W s, .bool lo])) (cA : CK_ 217 #[W s, W t] (.tuple #[W u, .bool ca])) (cO1 : CK_ 165 #[.int .u64 1] (W 1)) (cW : CK_ 127 #[.int .u8 f] (.int .i64 (n : Nat))) (cL2 : CK_ 164 #[W 1, .int .i64 ((n : Int) - 1)] (.tuple #[W s2, .bool lo2])) (cA2 : CK_ 217 #[W u, W s2] (.tuple #[W v, .bool ca2])) (cB : CK_ 218 #[W v] (.tuple #[BV b, .bool fb])) :
  CR_ 167 #[.int .u8 f, .bool true, .int .i64 (e0 : Nat), W t] w (BV b) := by
 have H := Own.start w
 go_enter Tryz.func167, Tryz.ntmps167
 exact walk3
theorem r7Build_any (f e0 t : Nat) (neg : Bool) (w : World) (hf : f < 4) (he : e0 < 2 * eF f + 2) (ht : t < 2 ^ (pF f - 1)) :
  CR_ 167 #[.int .u8 f, .bool neg, .int .i64 (e0 : Nat), W t] w (BV (mkN f neg e0 t)) := by
 obtain ⟨p1, p2, n1, n2, np1, np2⟩ := formB f hf
 obtain ⟨-, -, -, k4, k5, -, -, -⟩ := formK f hf
 have hm := (mkN_fields f hf neg e0 t ht he).2.2.2
 have hb := below_fits f _ hm
 have cR := fun w => r7Right_any f w
 rw [decide_eq_true hf] at cR
 have he64 : e0 < 18446744073709551616 := by omega
 have cO := fun w => r2Of_any e0 w he64
 have cP := fun w => r7Precision_any f w
 have cW := fun w => r7Width_any f w
 have cL := fun w => r2Left_any e0 ((pF f : Int) - 1) w (lt_top_bits e0 (by omega))
 rw [show clip ((pF f : Int) - 1) = pF f - 1 by unfold clip; omega] at cL
 have cA := fun w => r2Add_any (e0 * 2 ^ (pF f - 1)) t w
 have hw : IntKind.u64.wrap (e0 : Int) = (e0 : Int) := by rw [IntKind.wrap_u64]; omega
 cases neg
 ·have e1 : mkN f false e0 t = e0 * 2 ^ (pF f - 1) + t := by unfold mkN signN; simp
  rw [e1] at hb ⊢
  exact r7Build_f f e0 t (pF f) _ _ 1 0 0 _ _ _ false false _ w (by omega) (by omega) (by omega) (by omega) hw cR cO cP cL cA (fun w => r2ToBits_any _ w hb)
 ·have e1 : mkN f true e0 t = e0 * 2 ^ (pF f - 1) + t + 2 ^ (wF f - 1) := by unfold mkN signN; simp
  have cO1 := fun w => r2Of_any 1 w (by decide)
  have cL2 := fun w => r2Left_any 1 ((wF f : Int) - 1) w (lt_top_bits 1 (by decide))
  rw [show clip ((wF f : Int) - 1) = wF f - 1 by unfold clip; omega, Nat.one_mul] at cL2
  have cA2 := fun w => r2Add_any (e0 * 2 ^ (pF f - 1) + t) (2 ^ (wF f - 1)) w
  rw [e1] at hb ⊢
  exact r7Build_t f e0 t (pF f) _ _ (wF f) _ _ _ _ _ _ _ _ w (by omega) (by omega) (by omega) (by omega) hw cR cO cP cL cA cO1 cW cL2 cA2 (fun w => r2ToBits_any _ w hb)
theorem r7NaN_w (f o p s b : Nat) (lo : Bool) (w : World) (hp : p ≤ 113) (cO : CK_ 165 #[.int .u64 1] (W 1)) (cP : CK_ 166 #[.int .u8 f] (.int .i64 (p : Nat))) (cL : CK_ 164 #[W 1, .int .i64 ((p : Int) - 2)] (.tuple #[W s, .bool lo])) (cN : CK_ 168 #[.int .u8 f] (.int .i64 (o : Nat))) (cU : CK_ 167 #[.int .u8 f, .bool false, .int .i64 (o : Nat), W s] (BV b))  :
  CR_ 85 #[.int .u8 f] w (BV b) := by
 have H := Own.start w
 go_enter Tryz.func85, Tryz.ntmps85
 exact walk3
theorem r7Inf_w (f o b : Nat) (neg : Bool) (w : World) (cN : CK_ 168 #[.int .u8 f] (.int .i64 (o : Nat))) (cU : CK_ 167 #[.int .u8 f, .bool neg, .int .i64 (o : Nat), .agg #[.int .u64 0, .int .u64 0, .int .u64 0, .int .u64 0, .int .u64 0, .int .u64 0]] (BV b))  :
  CR_ 86 #[.int .u8 f, .bool neg] w (BV b) := by
 have H := Own.start w
 go_enter Tryz.func86, Tryz.ntmps86
 exact walk3
theorem r7Zero_w (f b : Nat) (neg : Bool) (w : World) (cU : CK_ 167 #[.int .u8 f, .bool neg, .int .i64 0, .agg #[.int .u64 0, .int .u64 0, .int .u64 0, .int .u64 0, .int .u64 0, .int .u64 0]] (BV b))  :
  CR_ 87 #[.int .u8 f, .bool neg] w (BV b) := by
 have H := Own.start w
 go_enter Tryz.func87, Tryz.ntmps87
 exact walk3
theorem r7Greatest_w (f o p m b : Nat) (neg : Bool) (w : World) (hp : p ≤ 113) (ho : o ≤ 40000) (cN : CK_ 168 #[.int .u8 f] (.int .i64 (o : Nat))) (cP : CK_ 166 #[.int .u8 f] (.int .i64 (p : Nat))) (cM : CK_ 194 #[.int .i64 ((p : Int) - 1)] (W m)) (cU : CK_ 167 #[.int .u8 f, .bool neg, .int .i64 ((o : Int) - 1), W m] (BV b))  :
  CR_ 226 #[.int .u8 f, .bool neg] w (BV b) := by
 have H := Own.start w
 go_enter Tryz.func226, Tryz.ntmps226
 exact walk3
theorem r7One_w (f o b : Nat) (neg : Bool) (w : World) (cX : CK_ 178 #[.int .u8 f] (.int .i64 (o : Nat))) (cU : CK_ 167 #[.int .u8 f, .bool neg, .int .i64 (o : Nat), .agg #[.int .u64 0, .int .u64 0, .int .u64 0, .int .u64 0, .int .u64 0, .int .u64 0]] (BV b))  :
  CR_ 94 #[.int .u8 f, .bool neg] w (BV b) := by
 have H := Own.start w
 go_enter Tryz.func94, Tryz.ntmps94
 exact walk3
theorem r7NaN_any (f : Nat) (w : World) (hf : f < 4) : CR_ 85 #[.int .u8 f] w (BV (nanN f)) := by
 obtain ⟨p1, p2, n1, n2, np1, np2⟩ := formB f hf
 have cL := fun w => r2Left_any 1 ((pF f : Int) - 2) w (lt_top_bits 1 (by decide))
 rw [show clip ((pF f : Int) - 2) = pF f - 2 by unfold clip; omega, Nat.one_mul] at cL
 have hp : 2 ^ (pF f - 1) = 2 ^ (pF f - 2) + 2 ^ (pF f - 2) := by rw [show pF f - 1 = pF f - 2 + 1 by omega, Nat.pow_succ]; omega
 have h2 := two_pos (pF f - 2)
 have cU := fun w => r7Build_any f (2 * eF f + 1) (2 ^ (pF f - 2)) false w hf (by omega) (by omega)
 have e1 : mkN f false (2 * eF f + 1) (2 ^ (pF f - 2)) = nanN f := by
  unfold mkN nanN signN
  rw [decide_eq_true hf, hp]
  simp only [cond_true, cond_false, Nat.add_zero]
  rw [← Nat.two_mul, ← Nat.mul_assoc]
  have : (4 * eF f + 3) = (2 * eF f + 1) * 2 + 1 := by omega
  rw [this]; exact (Nat.succ_mul _ _).symm
 rw [e1] at cU
 exact r7NaN_w f _ (pF f) _ _ _ w p2 (fun w => r2Of_any 1 w (by decide)) (fun w => r7Precision_any f w) cL (fun w => r7Ones_any f w) cU
theorem r7Inf_any (f : Nat) (neg : Bool) (w : World) (hf : f < 4) : CR_ 86 #[.int .u8 f, .bool neg] w (BV (infN f neg)) := by
 rw [infN_mk f neg hf]
 have cU := fun w => r7Build_any f (2 * eF f + 1) 0 neg w hf (by omega) (two_pos _)
 simp only [w_zero] at cU
 exact r7Inf_w f _ _ neg w (fun w => r7Ones_any f w) cU
theorem r7Zero_any (f : Nat) (neg : Bool) (w : World) (hf : f < 4) : CR_ 87 #[.int .u8 f, .bool neg] w (BV (zeroN f neg)) := by
 rw [zeroN_mk f neg hf]
 have cU := fun w => r7Build_any f 0 0 neg w hf (by omega) (two_pos _)
 simp only [w_zero] at cU
 exact r7Zero_w f _ neg w cU
theorem great_mkR (f : Nat) (neg : Bool) (hf : f < 4) : greatN f neg = mkN f neg (2 * eF f) (2 ^ (pF f - 1) - 1) := by
 unfold greatN mkN
 have := two_pos (pF f - 1)
 rw [decide_eq_true hf]
 simp only [cond_true]
 rw [Nat.add_mul, Nat.one_mul]; omega
theorem r7Greatest_any (f : Nat) (neg : Bool) (w : World) (hf : f < 4) : CR_ 226 #[.int .u8 f, .bool neg] w (BV (greatN f neg)) := by
 obtain ⟨p1, p2, n1, n2, np1, np2⟩ := formB f hf
 have he := eF_le f
 rw [great_mkR f neg hf]
 have cM := fun w => r2Mask_any ((pF f : Int) - 1) w
 rw [show clip ((pF f : Int) - 1) = pF f - 1 by unfold clip; omega] at cM
 have cU := fun w => r7Build_any f (2 * eF f) (2 ^ (pF f - 1) - 1) neg w hf (by omega) (by have := two_pos (pF f - 1); omega)
 rw [show ((2 * eF f : Nat) : Int) = ((2 * eF f + 1 : Nat) : Int) - 1 by omega] at cU
 exact r7Greatest_w f _ (pF f) _ _ neg w p2 (by omega) (fun w => r7Ones_any f w) (fun w => r7Precision_any f w) cM cU
theorem r7One_any (f : Nat) (neg : Bool) (w : World) (hf : f < 4) : CR_ 94 #[.int .u8 f, .bool neg] w (BV (oneN f neg)) := by
 rw [one_mk f neg hf]
 have cU := fun w => r7Build_any f (eF f) 0 neg w hf (by omega) (two_pos _)
 simp only [w_zero] at cU
 exact r7One_w f _ _ neg w (fun w => r7Emax_any f w) cU
theorem r11FitsL_form (f m n c : Nat) (sa : Option Addr) (w0 : World) (cR : CK_ 62 #[.int .u8 f] (.bool false))  :
  CR_ 82 #[.int .u8 f, .int .u8 m, .slice sa n c] w0 (.bool false) := by
 have H := Own.start w0
 go_enter Tryz.func82, Tryz.ntmps82
 exact walk3
theorem r11FitsL_mode (f m n c : Nat) (sa : Option Addr) (w0 : World) (cR : CK_ 62 #[.int .u8 f] (.bool true)) (cM : CK_ 49 #[.int .u8 m] (.bool false))  :
  CR_ 82 #[.int .u8 f, .int .u8 m, .slice sa n c] w0 (.bool false) := by
 have H := Own.start w0
 go_enter Tryz.func82, Tryz.ntmps82
 exact walk3
theorem r11FitsL_nil0 (f m c : Nat) (sa : Option Addr) (w0 : World) (cR : CK_ 62 #[.int .u8 f] (.bool true)) (cM : CK_ 49 #[.int .u8 m] (.bool true)) :
  CR_ 82 #[.int .u8 f, .int .u8 m, .slice sa 0 c] w0 (.bool true) := by
 have H := Own.start w0
 go_enter Tryz.func82, Tryz.ntmps82
 go_wp2_with (first
  | ((with_reducible refine g0_ rfl ?_); refine H.xb ?_; (intro g w H; simp only [Act.put, q1_, q2_, q3_]))
  | ((with_reducible refine g1_ rfl ?_); refine H.xa ?_; (intro g w H; simp only [Act.put, q1_, q2_, q3_]))
  | ((with_reducible refine g2_ rfl ?_); (first | refine H.xl ?_ | refine H.xm ?_); simp only [Act.put, q1_, q2_, q3_])
  | ((with_reducible refine g3_ rfl ?_); (first | refine H.xs ?_ | refine H.xt ?_); (intro w H; simp only [Act.put]))
  | (go_at_call 62; (with_reducible refine H.kc (cR _) ?_; clear H; intro w H))
  | (go_at_call 49; (with_reducible refine H.kc (cM _) ?_; clear H; intro w H))
  )
 go_loopw [7] (fun i wr => i = .int .i64 0 ∧ Own w0 wr []) (fun i _ => 1)
 case atStart => exact ⟨rfl, H⟩
 case round =>
  clear H
  obtain ⟨rfl, H⟩ := hrel
  go_wp2_with (first
  | ((with_reducible refine g0_ rfl ?_); refine H.xb ?_; (intro g w H; simp only [Act.put, q1_, q2_, q3_]))
  | ((with_reducible refine g1_ rfl ?_); refine H.xa ?_; (intro g w H; simp only [Act.put, q1_, q2_, q3_]))
  | ((with_reducible refine g2_ rfl ?_); (first | refine H.xl ?_ | refine H.xm ?_); simp only [Act.put, q1_, q2_, q3_])
  | ((with_reducible refine g3_ rfl ?_); (first | refine H.xs ?_ | refine H.xt ?_); (intro w H; simp only [Act.put]))
  | ((with_reducible refine g4_ rfl ?_); refine H.lde hB hb ?_; simp only [Act.put, q1_, q2_, q3_])
  | (go_at_call 62; (with_reducible refine H.kc (cR _) ?_; clear H; intro w H))
  | (go_at_call 49; (with_reducible refine H.kc (cM _) ?_; clear H; intro w H))
  | (go_at_call 48; (with_reducible refine H.kc (cTb _) ?_; clear H; intro w H))
  )
  all_goals
   go_ret
   exact ⟨rfl, H.below⟩
theorem r11FitsL_some0 (f m : Nat) (l : List Nat) (g o n c : Nat) (w0 : World) (hB : Bls w0 g o l) (hl : Hid (∀ b ∈ l, b < 2 ^ (64 * 2))) (hn : Hid (l.length = n)) (hsm : n ≤ 60) (cR : CK_ 62 #[.int .u8 f] (.bool true)) (cM : CK_ 49 #[.int .u8 m] (.bool true)) (cT : ∀ b w, b < 2 ^ (64 * 2) → CR_ 48 #[.int .u8 f, BV b] w (.bool (fitsB f b))) :
  CR_ 82 #[.int .u8 f, .int .u8 m, .slice (some ⟨g, o, none⟩) n c] w0 (.bool (allB f l)) := by
 obtain ⟨R, hR⟩ : ∃ R : Bool, Hid (R = allB f l) := ⟨_, Lib.hid rfl⟩
 rw [← hR.out]
 have H := Own.start w0
 go_enter Tryz.func82, Tryz.ntmps82
 go_wp2_with (first
  | ((with_reducible refine g0_ rfl ?_); refine H.xb ?_; (intro g w H; simp only [Act.put, q1_, q2_, q3_]))
  | ((with_reducible refine g1_ rfl ?_); refine H.xa ?_; (intro g w H; simp only [Act.put, q1_, q2_, q3_]))
  | ((with_reducible refine g2_ rfl ?_); (first | refine H.xl ?_ | refine H.xm ?_); simp only [Act.put, q1_, q2_, q3_])
  | ((with_reducible refine g3_ rfl ?_); (first | refine H.xs ?_ | refine H.xt ?_); (intro w H; simp only [Act.put]))
  | (go_at_call 62; (with_reducible refine H.kc (cR _) ?_; clear H; intro w H))
  | (go_at_call 49; (with_reducible refine H.kc (cM _) ?_; clear H; intro w H))
  )
 go_loopw [7] (fun i wr => ∃ k : Nat, k ≤ n ∧ i = .int .i64 k ∧ Hid (∀ j b, j < k → l[j]? = some b → fitsB f b = true) ∧ Own w0 wr []) (fun i _ => n + 1 - (intOf i).toNat)
 case atStart => exact ⟨0, by omega, rfl, (by intro j b hj; omega), H.sub v4_⟩
 case round =>
  clear H
  obtain ⟨k, hk, rfl, hfit, H⟩ := hrel
  by_cases hlt : k < n
  ·obtain ⟨b, hb⟩ : ∃ b, l[k]? = some b := ⟨_, List.getElem?_eq_getElem (by rw [hn.out]; exact hlt)⟩
   have hd : decide ((k : Int) < (n : Int)) = true := by simp; omega
   have cTb := fun w => cT b w (hl.out b (List.mem_of_getElem? hb))
   cases hf : fitsB f b
   ·rw [hf] at cTb
    go_wp2_with (first
  | ((with_reducible refine g0_ rfl ?_); refine H.xb ?_; (intro g w H; simp only [Act.put, q1_, q2_, q3_]))
  | ((with_reducible refine g1_ rfl ?_); refine H.xa ?_; (intro g w H; simp only [Act.put, q1_, q2_, q3_]))
  | ((with_reducible refine g2_ rfl ?_); (first | refine H.xl ?_ | refine H.xm ?_); simp only [Act.put, q1_, q2_, q3_])
  | ((with_reducible refine g3_ rfl ?_); (first | refine H.xs ?_ | refine H.xt ?_); (intro w H; simp only [Act.put]))
  | ((with_reducible refine g4_ rfl ?_); refine H.lde hB hb ?_; simp only [Act.put, q1_, q2_, q3_])
  | (go_at_call 62; (with_reducible refine H.kc (cR _) ?_; clear H; intro w H))
  | (go_at_call 49; (with_reducible refine H.kc (cM _) ?_; clear H; intro w H))
  | (go_at_call 48; (with_reducible refine H.kc (cTb _) ?_; clear H; intro w H))
  )
    all_goals
     go_ret
     exact ⟨by rw [hR.out, allB_not f l k b hb hf]; rfl, H.below⟩
   ·rw [hf] at cTb
    go_wp2_with (first
  | ((with_reducible refine g0_ rfl ?_); refine H.xb ?_; (intro g w H; simp only [Act.put, q1_, q2_, q3_]))
  | ((with_reducible refine g1_ rfl ?_); refine H.xa ?_; (intro g w H; simp only [Act.put, q1_, q2_, q3_]))
  | ((with_reducible refine g2_ rfl ?_); (first | refine H.xl ?_ | refine H.xm ?_); simp only [Act.put, q1_, q2_, q3_])
  | ((with_reducible refine g3_ rfl ?_); (first | refine H.xs ?_ | refine H.xt ?_); (intro w H; simp only [Act.put]))
  | ((with_reducible refine g4_ rfl ?_); refine H.lde hB hb ?_; simp only [Act.put, q1_, q2_, q3_])
  | (go_at_call 62; (with_reducible refine H.kc (cR _) ?_; clear H; intro w H))
  | (go_at_call 49; (with_reducible refine H.kc (cM _) ?_; clear H; intro w H))
  | (go_at_call 48; (with_reducible refine H.kc (cTb _) ?_; clear H; intro w H))
  )
    all_goals
     go_roundw
     case rel => exact ⟨k + 1, by omega, by go_num, fits_next hfit.out hb hf, H.sub v4_⟩
     case measure => first | (simp [intOf]; omega) | simp [intOf]
  ·obtain rfl : k = n := by omega
   have hd : decide ((k : Int) < (k : Int)) = false := by simp
   have hall := allB_yes f l k (by rw [hn.out]; exact Nat.le_refl _) hfit.out
   have hR2 : Hid (R = true) := hR.out.trans hall
   clear hfit hall hR
   go_wp2_with (first
  | ((with_reducible refine g0_ rfl ?_); refine H.xb ?_; (intro g w H; simp only [Act.put, q1_, q2_, q3_]))
  | ((with_reducible refine g1_ rfl ?_); refine H.xa ?_; (intro g w H; simp only [Act.put, q1_, q2_, q3_]))
  | ((with_reducible refine g2_ rfl ?_); (first | refine H.xl ?_ | refine H.xm ?_); simp only [Act.put, q1_, q2_, q3_])
  | ((with_reducible refine g3_ rfl ?_); (first | refine H.xs ?_ | refine H.xt ?_); (intro w H; simp only [Act.put]))
  | ((with_reducible refine g4_ rfl ?_); refine H.lde hB hb ?_; simp only [Act.put, q1_, q2_, q3_])
  | (go_at_call 62; (with_reducible refine H.kc (cR _) ?_; clear H; intro w H))
  | (go_at_call 49; (with_reducible refine H.kc (cM _) ?_; clear H; intro w H))
  | (go_at_call 48; (with_reducible refine H.kc (cTb _) ?_; clear H; intro w H))
  )
   all_goals
    go_ret
    exact ⟨by rw [hR2.out]; rfl, H.below⟩
theorem r11FitsL_nil (f m c : Nat) (sa : Option Addr) (w0 : World) :
  CR_ 82 #[.int .u8 f, .int .u8 m, .slice sa 0 c] w0 (.bool (decide (f < 4) && decide (m < 5))) := by
 have cR := fun w => r7Right_any f w
 have cM := fun w => r7RightMode_any m w
 by_cases hf : f < 4
 case neg =>
  rw [decide_eq_false hf] at cR
  rw [decide_eq_false hf]
  simp only [Bool.false_and]
  exact r11FitsL_form f m 0 c sa w0 cR
 rw [decide_eq_true hf] at cR
 by_cases hm : m < 5
 case neg =>
  rw [decide_eq_false hm] at cM
  rw [decide_eq_false hm]
  simp only [Bool.false_and, Bool.and_false]
  exact r11FitsL_mode f m 0 c sa w0 cR cM
 rw [decide_eq_true hm] at cM
 rw [decide_eq_true hf, decide_eq_true hm]
 simp only [Bool.true_and]
 exact r11FitsL_nil0 f m c sa w0 cR cM
theorem r11FitsL_some (f m : Nat) (l : List Nat) (g o n c : Nat) (w0 : World) (hB : Bls w0 g o l) (hl : Hid (∀ b ∈ l, b < 2 ^ (64 * 2))) (hn : Hid (l.length = n)) (hsm : n ≤ 60) :
  CR_ 82 #[.int .u8 f, .int .u8 m, .slice (some ⟨g, o, none⟩) n c] w0 (.bool (decide (f < 4) && decide (m < 5) && allB f l)) := by
 have cR := fun w => r7Right_any f w
 have cM := fun w => r7RightMode_any m w
 by_cases hf : f < 4
 case neg =>
  rw [decide_eq_false hf] at cR
  rw [decide_eq_false hf]
  simp only [Bool.false_and]
  exact r11FitsL_form f m n c (some ⟨g, o, none⟩) w0 cR
 rw [decide_eq_true hf] at cR
 by_cases hm : m < 5
 case neg =>
  rw [decide_eq_false hm] at cM
  rw [decide_eq_false hm]
  simp only [Bool.false_and, Bool.and_false]
  exact r11FitsL_mode f m n c (some ⟨g, o, none⟩) w0 cR cM
 rw [decide_eq_true hm] at cM
 rw [decide_eq_true hf, decide_eq_true hm]
 simp only [Bool.true_and]
 exact r11FitsL_some0 f m l g o n c w0 hB hl hn hsm cR cM (fun b w hb => r7Fits_any f b w hb)
theorem r8Unpack_8 (f b c e0 t p m s u : Nat) (em : Int) (neg lo ca : Bool) (w : World) (hp : p ≤ 113) (h1p : 1 ≤ p) (hm : m ≤ 20000) (he : e0 ≤ 40000) (hem : -20000 ≤ em) (hem2 : em ≤ 20000) (q8 : ((c : Int) == 8) = true) (cC : CK_ 129 #[.int .u8 f, BV b] (.int .u8 (c : Nat))) (cF : CK_ 128 #[.int .u8 f, BV b] (.tuple #[.bool neg, .int .i64 (e0 : Nat), W t])) (cP : CK_ 166 #[.int .u8 f] (.int .i64 (p : Nat)))  :
  CR_ 169 #[.int .u8 f, BV b] w (PV c 0 0 t) := by
 have H := Own.start w
 go_enter Tryz.func169, Tryz.ntmps169
 exact walk3
theorem r8Unpack_9 (f b c e0 t p m s u : Nat) (em : Int) (neg lo ca : Bool) (w : World) (hp : p ≤ 113) (h1p : 1 ≤ p) (hm : m ≤ 20000) (he : e0 ≤ 40000) (hem : -20000 ≤ em) (hem2 : em ≤ 20000) (q8 : ((c : Int) == 8) = false) (q9 : ((c : Int) == 9) = true) (cC : CK_ 129 #[.int .u8 f, BV b] (.int .u8 (c : Nat))) (cF : CK_ 128 #[.int .u8 f, BV b] (.tuple #[.bool neg, .int .i64 (e0 : Nat), W t])) (cP : CK_ 166 #[.int .u8 f] (.int .i64 (p : Nat)))  :
  CR_ 169 #[.int .u8 f, BV b] w (PV c 0 0 t) := by
 have H := Own.start w
 go_enter Tryz.func169, Tryz.ntmps169
 exact walk3
theorem r8Unpack_2 (f b c e0 t p m s u : Nat) (em : Int) (neg lo ca : Bool) (w : World) (hp : p ≤ 113) (h1p : 1 ≤ p) (hm : m ≤ 20000) (he : e0 ≤ 40000) (hem : -20000 ≤ em) (hem2 : em ≤ 20000) (q8 : ((c : Int) == 8) = false) (q9 : ((c : Int) == 9) = false) (q2 : ((c : Int) == 2) = true) (cC : CK_ 129 #[.int .u8 f, BV b] (.int .u8 (c : Nat))) (cF : CK_ 128 #[.int .u8 f, BV b] (.tuple #[.bool neg, .int .i64 (e0 : Nat), W t])) (cP : CK_ 166 #[.int .u8 f] (.int .i64 (p : Nat))) (cE : CK_ 210 #[.int .u8 f] (.int .i64 em))  :
  CR_ 169 #[.int .u8 f, BV b] w (PV c t (em - (p : Int) + 1) 0) := by
 have H := Own.start w
 go_enter Tryz.func169, Tryz.ntmps169
 exact walk3
theorem r8Unpack_5 (f b c e0 t p m s u : Nat) (em : Int) (neg lo ca : Bool) (w : World) (hp : p ≤ 113) (h1p : 1 ≤ p) (hm : m ≤ 20000) (he : e0 ≤ 40000) (hem : -20000 ≤ em) (hem2 : em ≤ 20000) (q8 : ((c : Int) == 8) = false) (q9 : ((c : Int) == 9) = false) (q2 : ((c : Int) == 2) = false) (q5 : ((c : Int) == 5) = true) (cC : CK_ 129 #[.int .u8 f, BV b] (.int .u8 (c : Nat))) (cF : CK_ 128 #[.int .u8 f, BV b] (.tuple #[.bool neg, .int .i64 (e0 : Nat), W t])) (cP : CK_ 166 #[.int .u8 f] (.int .i64 (p : Nat))) (cE : CK_ 210 #[.int .u8 f] (.int .i64 em))  :
  CR_ 169 #[.int .u8 f, BV b] w (PV c t (em - (p : Int) + 1) 0) := by
 have H := Own.start w
 go_enter Tryz.func169, Tryz.ntmps169
 exact walk3
theorem r8Unpack_1 (f b c e0 t p m s u : Nat) (em : Int) (neg lo ca : Bool) (w : World) (hp : p ≤ 113) (h1p : 1 ≤ p) (hm : m ≤ 20000) (he : e0 ≤ 40000) (hem : -20000 ≤ em) (hem2 : em ≤ 20000) (q8 : ((c : Int) == 8) = false) (q9 : ((c : Int) == 9) = false) (q2 : ((c : Int) == 2) = false) (q5 : ((c : Int) == 5) = false) (q1 : ((c : Int) == 1) = true) (cC : CK_ 129 #[.int .u8 f, BV b] (.int .u8 (c : Nat))) (cF : CK_ 128 #[.int .u8 f, BV b] (.tuple #[.bool neg, .int .i64 (e0 : Nat), W t])) (cP : CK_ 166 #[.int .u8 f] (.int .i64 (p : Nat))) (cX : CK_ 178 #[.int .u8 f] (.int .i64 (m : Nat))) (cO : CK_ 165 #[.int .u64 1] (W 1)) (cL : CK_ 164 #[W 1, .int .i64 ((p : Int) - 1)] (.tuple #[W s, .bool lo])) (cA : CK_ 217 #[W s, W t] (.tuple #[W u, .bool ca]))  :
  CR_ 169 #[.int .u8 f, BV b] w (PV c u ((e0 : Int) - (m : Int) - (p : Int) + 1) 0) := by
 have H := Own.start w
 go_enter Tryz.func169, Tryz.ntmps169
 exact walk3
theorem r8Unpack_6 (f b c e0 t p m s u : Nat) (em : Int) (neg lo ca : Bool) (w : World) (hp : p ≤ 113) (h1p : 1 ≤ p) (hm : m ≤ 20000) (he : e0 ≤ 40000) (hem : -20000 ≤ em) (hem2 : em ≤ 20000) (q8 : ((c : Int) == 8) = false) (q9 : ((c : Int) == 9) = false) (q2 : ((c : Int) == 2) = false) (q5 : ((c : Int) == 5) = false) (q1 : ((c : Int) == 1) = false) (q6 : ((c : Int) == 6) = true) (cC : CK_ 129 #[.int .u8 f, BV b] (.int .u8 (c : Nat))) (cF : CK_ 128 #[.int .u8 f, BV b] (.tuple #[.bool neg, .int .i64 (e0 : Nat), W t])) (cP : CK_ 166 #[.int .u8 f] (.int .i64 (p : Nat))) (cX : CK_ 178 #[.int .u8 f] (.int .i64 (m : Nat))) (cO : CK_ 165 #[.int .u64 1] (W 1)) (cL : CK_ 164 #[W 1, .int .i64 ((p : Int) - 1)] (.tuple #[W s, .bool lo])) (cA : CK_ 217 #[W s, W t] (.tuple #[W u, .bool ca]))  :
  CR_ 169 #[.int .u8 f, BV b] w (PV c u ((e0 : Int) - (m : Int) - (p : Int) + 1) 0) := by
 have H := Own.start w
 go_enter Tryz.func169, Tryz.ntmps169
 exact walk3
theorem r8Unpack_0 (f b c e0 t p m s u : Nat) (em : Int) (neg lo ca : Bool) (w : World) (hp : p ≤ 113) (h1p : 1 ≤ p) (hm : m ≤ 20000) (he : e0 ≤ 40000) (hem : -20000 ≤ em) (hem2 : em ≤ 20000) (q8 : ((c : Int) == 8) = false) (q9 : ((c : Int) == 9) = false) (q2 : ((c : Int) == 2) = false) (q5 : ((c : Int) == 5) = false) (q1 : ((c : Int) == 1) = false) (q6 : ((c : Int) == 6) = false) (cC : CK_ 129 #[.int .u8 f, BV b] (.int .u8 (c : Nat))) (cF : CK_ 128 #[.int .u8 f, BV b] (.tuple #[.bool neg, .int .i64 (e0 : Nat), W t])) (cP : CK_ 166 #[.int .u8 f] (.int .i64 (p : Nat)))  :
  CR_ 169 #[.int .u8 f, BV b] w (PV c 0 0 0) := by
 have H := Own.start w
 go_enter Tryz.func169, Tryz.ntmps169
 exact walk3
theorem r8Unpack_any (f b : Nat) (w : World) (hf : f < 4) (hb : b < 2 ^ (64 * 2)) :
  CR_ 169 #[.int .u8 f, BV b] w (PV (clsN f b) (sigN f b) (xpN f b) (frN f b)) := by
 obtain ⟨p1, p2, -, -, -, -⟩ := formB f hf
 obtain ⟨-, -, -, k4, k5, k6, -, -⟩ := formK f hf
 have he := expN_lt f b hf
 have cC := fun w => r8Class_any f b w hf hb
 have cF := fun w => r7Fields_any f b w hf hb
 have cP := fun w => r7Precision_any f w
 have cE := fun w => r7Emin_any f w
 have cX := fun w => r7Emax_any f w
 have cO := fun w => r2Of_any 1 w (by decide)
 have cL := fun w => r2Left_any 1 ((pF f : Int) - 1) w (lt_top_bits 1 (by decide))
 rw [show clip ((pF f : Int) - 1) = pF f - 1 by unfold clip; omega, Nat.one_mul] at cL
 have cA := fun w => r2Add_any (2 ^ (pF f - 1)) (b % 2 ^ (pF f - 1)) w
 have key : ∀ c, clsN f b = c → c ≤ 9 → CR_ 169 #[.int .u8 f, BV b] w (PV (clsN f b) (sigN f b) (xpN f b) (frN f b)) := by
  intro c hc h9
  rw [hc] at cC
  have hx0 : (clsN f b = 2 ∨ clsN f b = 5) → expN f b = 0 := by
   intro h
   unfold clsN at h
   by_cases h1 : expN f b = 2 * eF f + 1
   ·rw [if_pos h1] at h
    split at h
    ·cases hn : b.testBit (wF f - 1) <;> rw [hn] at h <;> simp at h
    ·cases hn : (b % 2 ^ (pF f - 1)).testBit (pF f - 2) <;> rw [hn] at h <;> simp at h
   ·rw [if_neg h1] at h
    by_cases h2 : expN f b = 0
    ·exact h2
    ·rw [if_neg h2] at h
     cases hn : b.testBit (wF f - 1) <;> rw [hn] at h <;> simp at h
  obtain rfl | rfl | rfl | rfl | rfl | rfl | rfl | rfl | rfl | rfl : c = 0 ∨ c = 1 ∨ c = 2 ∨ c = 3 ∨ c = 4 ∨ c = 5 ∨ c = 6 ∨ c = 7 ∨ c = 8 ∨ c = 9 := by omega
  ·have h := r8Unpack_0 f b 0 (expN f b) (b % 2 ^ (pF f - 1)) (pF f) (eF f) 0 0 (eminI f) _ false false w p2 (by omega) (by omega) (by omega) (by omega) (by omega) (int_eq_false _ _ (by decide)) (int_eq_false _ _ (by decide)) (int_eq_false _ _ (by decide)) (int_eq_false _ _ (by decide)) (int_eq_false _ _ (by decide)) (int_eq_false _ _ (by decide)) cC cF cP
   have e1 : sigN f b = 0 := by unfold sigN; rw [if_neg (by omega), if_neg (by omega)]
   have e2 : xpN f b = 0 := by unfold xpN; rw [if_neg (by omega), if_neg (by omega)]
   have e3 : frN f b = 0 := by unfold frN; rw [if_neg (by omega)]
   rw [hc, e1, e2, e3]; exact h
  ·have h := r8Unpack_1 f b 1 (expN f b) (b % 2 ^ (pF f - 1)) (pF f) (eF f) _ _ (eminI f) _ _ _ w p2 (by omega) (by omega) (by omega) (by omega) (by omega) (int_eq_false _ _ (by decide)) (int_eq_false _ _ (by decide)) (int_eq_false _ _ (by decide)) (int_eq_false _ _ (by decide)) (int_eq_true _ _ (by decide)) cC cF cP cX cO cL cA
   have e1 : xpN f b = (expN f b : Int) - (eF f : Int) - (pF f : Int) + 1 := by unfold xpN; rw [if_pos (by omega)]; omega
   obtain ⟨e2, e3⟩ := sign_normal f b (by omega)
   rw [hc, e1, e2, e3]; exact h
  ·have h := r8Unpack_2 f b 2 (expN f b) (b % 2 ^ (pF f - 1)) (pF f) (eF f) 0 0 (eminI f) _ false false w p2 (by omega) (by omega) (by omega) (by omega) (by omega) (int_eq_false _ _ (by decide)) (int_eq_false _ _ (by decide)) (int_eq_true _ _ (by decide)) cC cF cP cE
   have e1 : xpN f b = eminI f - (pF f : Int) + 1 := by unfold xpN; rw [if_neg (by omega), if_pos (by omega), hx0 (by omega)]; omega
   have e2 : sigN f b = b % 2 ^ (pF f - 1) := by unfold sigN; rw [if_neg (by omega), if_pos (by omega)]
   have e3 : frN f b = 0 := by unfold frN; rw [if_neg (by omega)]
   rw [hc, e1, e2, e3]; exact h
  ·have h := r8Unpack_0 f b 3 (expN f b) (b % 2 ^ (pF f - 1)) (pF f) (eF f) 0 0 (eminI f) _ false false w p2 (by omega) (by omega) (by omega) (by omega) (by omega) (int_eq_false _ _ (by decide)) (int_eq_false _ _ (by decide)) (int_eq_false _ _ (by decide)) (int_eq_false _ _ (by decide)) (int_eq_false _ _ (by decide)) (int_eq_false _ _ (by decide)) cC cF cP
   have e1 : sigN f b = 0 := by unfold sigN; rw [if_neg (by omega), if_neg (by omega)]
   have e2 : xpN f b = 0 := by unfold xpN; rw [if_neg (by omega), if_neg (by omega)]
   have e3 : frN f b = 0 := by unfold frN; rw [if_neg (by omega)]
   rw [hc, e1, e2, e3]; exact h
  ·have h := r8Unpack_0 f b 4 (expN f b) (b % 2 ^ (pF f - 1)) (pF f) (eF f) 0 0 (eminI f) _ false false w p2 (by omega) (by omega) (by omega) (by omega) (by omega) (int_eq_false _ _ (by decide)) (int_eq_false _ _ (by decide)) (int_eq_false _ _ (by decide)) (int_eq_false _ _ (by decide)) (int_eq_false _ _ (by decide)) (int_eq_false _ _ (by decide)) cC cF cP
   have e1 : sigN f b = 0 := by unfold sigN; rw [if_neg (by omega), if_neg (by omega)]
   have e2 : xpN f b = 0 := by unfold xpN; rw [if_neg (by omega), if_neg (by omega)]
   have e3 : frN f b = 0 := by unfold frN; rw [if_neg (by omega)]
   rw [hc, e1, e2, e3]; exact h
  ·have h := r8Unpack_5 f b 5 (expN f b) (b % 2 ^ (pF f - 1)) (pF f) (eF f) 0 0 (eminI f) _ false false w p2 (by omega) (by omega) (by omega) (by omega) (by omega) (int_eq_false _ _ (by decide)) (int_eq_false _ _ (by decide)) (int_eq_false _ _ (by decide)) (int_eq_true _ _ (by decide)) cC cF cP cE
   have e1 : xpN f b = eminI f - (pF f : Int) + 1 := by unfold xpN; rw [if_neg (by omega), if_pos (by omega), hx0 (by omega)]; omega
   have e2 : sigN f b = b % 2 ^ (pF f - 1) := by unfold sigN; rw [if_neg (by omega), if_pos (by omega)]
   have e3 : frN f b = 0 := by unfold frN; rw [if_neg (by omega)]
   rw [hc, e1, e2, e3]; exact h
  ·have h := r8Unpack_6 f b 6 (expN f b) (b % 2 ^ (pF f - 1)) (pF f) (eF f) _ _ (eminI f) _ _ _ w p2 (by omega) (by omega) (by omega) (by omega) (by omega) (int_eq_false _ _ (by decide)) (int_eq_false _ _ (by decide)) (int_eq_false _ _ (by decide)) (int_eq_false _ _ (by decide)) (int_eq_false _ _ (by decide)) (int_eq_true _ _ (by decide)) cC cF cP cX cO cL cA
   have e1 : xpN f b = (expN f b : Int) - (eF f : Int) - (pF f : Int) + 1 := by unfold xpN; rw [if_pos (by omega)]; omega
   obtain ⟨e2, e3⟩ := sign_normal f b (by omega)
   rw [hc, e1, e2, e3]; exact h
  ·have h := r8Unpack_0 f b 7 (expN f b) (b % 2 ^ (pF f - 1)) (pF f) (eF f) 0 0 (eminI f) _ false false w p2 (by omega) (by omega) (by omega) (by omega) (by omega) (int_eq_false _ _ (by decide)) (int_eq_false _ _ (by decide)) (int_eq_false _ _ (by decide)) (int_eq_false _ _ (by decide)) (int_eq_false _ _ (by decide)) (int_eq_false _ _ (by decide)) cC cF cP
   have e1 : sigN f b = 0 := by unfold sigN; rw [if_neg (by omega), if_neg (by omega)]
   have e2 : xpN f b = 0 := by unfold xpN; rw [if_neg (by omega), if_neg (by omega)]
   have e3 : frN f b = 0 := by unfold frN; rw [if_neg (by omega)]
   rw [hc, e1, e2, e3]; exact h
  ·have h := r8Unpack_8 f b 8 (expN f b) (b % 2 ^ (pF f - 1)) (pF f) (eF f) 0 0 (eminI f) _ false false w p2 (by omega) (by omega) (by omega) (by omega) (by omega) (int_eq_true _ _ (by decide)) cC cF cP
   have e1 : sigN f b = 0 := by unfold sigN; rw [if_neg (by omega), if_neg (by omega)]
   have e2 : xpN f b = 0 := by unfold xpN; rw [if_neg (by omega), if_neg (by omega)]
   have e3 : frN f b = b % 2 ^ (pF f - 1) := by unfold frN; rw [if_pos (by omega)]
   rw [hc, e1, e2, e3]; exact h
  ·have h := r8Unpack_9 f b 9 (expN f b) (b % 2 ^ (pF f - 1)) (pF f) (eF f) 0 0 (eminI f) _ false false w p2 (by omega) (by omega) (by omega) (by omega) (by omega) (int_eq_false _ _ (by decide)) (int_eq_true _ _ (by decide)) cC cF cP
   have e1 : sigN f b = 0 := by unfold sigN; rw [if_neg (by omega), if_neg (by omega)]
   have e2 : xpN f b = 0 := by unfold xpN; rw [if_neg (by omega), if_neg (by omega)]
   have e3 : frN f b = b % 2 ^ (pF f - 1) := by unfold frN; rw [if_pos (by omega)]
   rw [hc, e1, e2, e3]; exact h
 exact key _ rfl (cls_le f b)
def divSh (f a b : Nat) : Nat := (max ((pF f : Int) + 3 + lenN (sigN f b) - lenN (sigN f a)) 0).toNat
def divR (f m a b : Nat) : Nat × Nat :=
 if (nanB (clsN f a) || nanB (clsN f b)) = true then canonR f (clsN f a) (clsN f b)
 else if (infB (clsN f a) && infB (clsN f b) || zerB (clsN f a) && zerB (clsN f b)) = true then (nanN f, 16)
 else if infB (clsN f a) = true then (infN f (belowN4 (clsN f a) != belowN4 (clsN f b)), 0)
 else if (infB (clsN f b) || zerB (clsN f a)) = true then (zeroN f (belowN4 (clsN f a) != belowN4 (clsN f b)), 0)
 else if zerB (clsN f b) = true then (infN f (belowN4 (clsN f a) != belowN4 (clsN f b)), 8)
 else packB f m (belowN4 (clsN f a) != belowN4 (clsN f b)) (sigN f a * 2 ^ divSh f a b / sigN f b) (xpN f a - xpN f b - divSh f a b) (!decide (sigN f a * 2 ^ divSh f a b % sigN f b = 0))
theorem fin_flags (f b : Nat) (h : Fin0 f b) : nanB (clsN f b) = false ∧ infB (clsN f b) = false ∧ zerB (clsN f b) = false := by
 rcases h with c | c | c | c <;> rw [c] <;> exact ⟨rfl, rfl, rfl⟩
theorem zer_flags (f b : Nat) (h : clsN f b = 3 ∨ clsN f b = 4) : nanB (clsN f b) = false ∧ infB (clsN f b) = false ∧ zerB (clsN f b) = true := by
 rcases h with c | c <;> rw [c] <;> exact ⟨rfl, rfl, rfl⟩
theorem div_one (f m a : Nat) (hf : f < 4) (h : fitsB f a = true) (hc : Fin0 f a ∨ clsN f a = 3 ∨ clsN f a = 4) : divR f m a (oneN f false) = (a, 0) := by
 obtain ⟨o1, o2, o3, o4⟩ := one_parts f false hf
 have ho : belowN4 (clsN f (oneN f false)) = false := by rw [o2]; rfl
 have hon : nanB (clsN f (oneN f false)) = false ∧ infB (clsN f (oneN f false)) = false ∧ zerB (clsN f (oneN f false)) = false := by rw [o2]; exact ⟨rfl, rfl, rfl⟩
 have h8 : ¬ 8 ≤ clsN f a := by unfold Fin0 at hc; omega
 have hbn := below_neg f a h8
 unfold divR
 rw [hon.1, hon.2.1, hon.2.2, ho, hbn, bne_false]
 rcases hc with hc | hc
 ·obtain ⟨e1, e2, e3⟩ := fin_flags f a hc
  obtain ⟨hcan, henc⟩ := can_of f a h hc
  rw [e1, e2, e3]
  simp only [Bool.or_self, Bool.false_eq_true, if_false, Bool.and_self]
  rw [o3, o4]
  obtain ⟨h1, h2, h3, h4, h5, h6, h7, h8'⟩ := formK f hf
  have hl := (lenN_le _ _).2 hcan.lt
  have hlp := lenN_pos _ hcan.pos
  have hlo : lenN (2 ^ (pF f - 1)) = pF f := lenN_unique _ _ (Nat.le_refl _) (Nat.pow_lt_pow_right (by decide) (by omega)) (by omega)
  obtain ⟨k, hk⟩ : ∃ k, divSh f a (oneN f false) = k + (pF f - 1) := ⟨divSh f a (oneN f false) - (pF f - 1), by unfold divSh; rw [o3, hlo]; omega⟩
  rw [hk, Nat.pow_add, ← Nat.mul_assoc, Nat.mul_div_cancel _ (two_pos _), Nat.mul_mod_left, decide_eq_true rfl]
  rw [Bool.not_true, pack_exact f m (sigN f a) _ (xpN f a) _ (negN f a) hf hcan (Or.inl ⟨by omega, by rw [show (xpN f a - (xpN f a - (1 - (pF f : Int)) - ((k + (pF f - 1) : Nat) : Int))).toNat = k by omega]⟩), henc]
 ·obtain ⟨e1, e2, e3⟩ := zer_flags f a hc
  rw [e1, e2, e3]
  simp only [Bool.or_self, Bool.false_eq_true, if_false, Bool.and_self, Bool.and_false, Bool.or_true, if_true]
  rw [zero_of f a h hc]
theorem div_self (f m a : Nat) (hf : f < 4) (h : fitsB f a = true) (hc : Fin0 f a) : divR f m a a = (oneN f false, 0) := by
 obtain ⟨e1, e2, e3⟩ := fin_flags f a hc
 obtain ⟨hcan, henc⟩ := can_of f a h hc
 obtain ⟨h1, h2, h3, h4, h5, h6, h7, h8⟩ := formK f hf
 obtain ⟨o1, o2, o3, o4⟩ := one_parts f false hf
 have ho : Fin0 f (oneN f false) := by unfold Fin0; rw [o2]; decide
 obtain ⟨ocan, oenc⟩ := can_of f (oneN f false) o1 ho
 have on : negN f (oneN f false) = false := by rw [one_mk f false hf]; exact (mkN_fields f hf false (eF f) 0 (two_pos _) (by omega)).2.2.1
 rw [on] at oenc
 unfold divR
 rw [e1, e2, e3]
 simp only [Bool.or_self, Bool.false_eq_true, if_false, Bool.and_self, bne_self_eq_false]
 have hs : divSh f a a = pF f + 3 := by unfold divSh; omega
 have hp : 0 < sigN f a := Nat.pos_of_ne_zero hcan.pos
 rw [hs, Nat.mul_div_cancel_left _ hp, Nat.mul_mod_right, decide_eq_true rfl, Bool.not_true]
 rw [pack_exact f m (sigN f (oneN f false)) _ (xpN f (oneN f false)) _ false hf ocan (Or.inl ⟨by rw [o4]; omega, ?_⟩), oenc]
 rw [o3, o4, ← Nat.pow_add, show pF f - 1 + (1 - (pF f : Int) - (xpN f a - xpN f a - ((pF f + 3 : Nat) : Int))).toNat = pF f + 3 by omega]
theorem r8IsSig_w (f b c : Nat) (w : World) (cC : CK_ 129 #[.int .u8 f, BV b] (.int .u8 (c : Nat))) :
  CR_ 163 #[.int .u8 f, BV b] w (.bool ((c : Int) == 8)) := by
 have H := Own.start w
 go_enter Tryz.func163, Tryz.ntmps163
 exact walk3
theorem r8IsSig_any (f b : Nat) (w : World) (hf : f < 4) (hb : b < 2 ^ (64 * 2)) :
  CR_ 163 #[.int .u8 f, BV b] w (.bool (decide (clsN f b = 8))) := by
 have h := r8IsSig_w f b _ w (fun w => r8Class_any f b w hf hb)
 rw [show ((clsN f b : Int) == 8) = decide (clsN f b = 8) by by_cases k : clsN f b = 8 <;> simp [k] <;> omega] at h
 exact h
theorem bls2 {w : World} {g a b : Nat} (hB : Blk 27 w g (cat2 (bc a) (bc b))) : Bls w g 0 [a, b] :=
 ⟨hB.lt, fun k x hk => by
  match k with
  | 0 => simp only [List.getElem?_cons_zero] at hk; injection hk with hk; subst hk; have h := World.rangeAt_of_block hB 0 2; rw [show (cat2 (bc a) (bc b)).extract 0 (0 + 2) = bc a from cat2_0 (bc a) (bc b)] at h; exact h
  | 1 => simp only [List.getElem?_cons_succ, List.getElem?_cons_zero] at hk; injection hk with hk; subst hk; have h := World.rangeAt_of_block hB 2 2; rw [show (cat2 (bc a) (bc b)).extract 2 (2 + 2) = bc b from cat2_1 (bc a) (bc b) rfl] at h; exact h
  | k + 2 => simp at hk⟩
theorem r11Fits2_any (f m a b : Nat) (w0 : World) (ha : a < 2 ^ (64 * 2)) (hb : b < 2 ^ (64 * 2)) (g0 : Nat) (hB : Blk 27 w0 g0 (cat2 (bc a) (bc b))) :
  CR_ 82 #[.int .u8 f, .int .u8 m, .slice (some ⟨g0, 0, none⟩) 2 2] w0 (.bool (binOk f m a b)) := by
 have h := r11FitsL_some f m [a, b] g0 0 2 2 w0 (bls2 hB) (Lib.hid (by intro x hx; simp only [List.mem_cons, List.not_mem_nil, or_false] at hx; rcases hx with rfl | rfl <;> assumption)) (Lib.hid rfl) (by decide)
 have e : allB f [a, b] = (fitsB f a && fitsB f b) := by unfold allB; simp only [List.all_cons, List.all_nil, Bool.and_true]
 rw [e] at h
 unfold binOk
 exact h
theorem r11Canon2 (f z a b : Nat) (sa sb : Bool) (w0 : World) (g0 : Nat) (hB : Blk 27 w0 g0 (cat2 (bc a) (bc b))) (cN : CK_ 85 #[.int .u8 f] (BV z)) (cSa : CK_ 163 #[.int .u8 f, BV a] (.bool sa)) (cSb : CK_ 163 #[.int .u8 f, BV b] (.bool sb)) :
  CR_ 83 #[.int .u8 f, .slice (some ⟨g0, 0, none⟩) 2 2] w0 (.tuple #[BV z, .int .u8 (cond (sa || sb) 16 0)]) := by
 have H := Own.start w0
 go_enter Tryz.func83, Tryz.ntmps83
 go_wp2_with (first
  | ((with_reducible refine g0_ rfl ?_); refine H.xb ?_; (intro g w H; simp only [Act.put, q1_, q2_, q3_]))
  | ((with_reducible refine g1_ rfl ?_); refine H.xa ?_; (intro g w H; simp only [Act.put, q1_, q2_, q3_]))
  | ((with_reducible refine g2_ rfl ?_); (first | refine H.xl ?_ | refine H.xm ?_); simp only [Act.put, q1_, q2_, q3_])
  | ((with_reducible refine g3_ rfl ?_); (first | refine H.xs ?_ | refine H.xt ?_); (intro w H; simp only [Act.put]))
  )
 go_loopw [6, 7] (fun v i wr => (i = .int .i64 0 ∧ v = .int .u8 0 ∧ Own w0 wr [(g, 27, #[.int .u64 0, .int .u64 0])]) ∨ (i = .int .i64 1 ∧ v = .int .u8 (cond (sa) 16 0) ∧ Own w0 wr [(g, 27, #[.int .u64 0, .int .u64 0])]) ∨ (i = .int .i64 2 ∧ v = .int .u8 (cond (sa || sb) 16 0) ∧ Own w0 wr [(g, 27, #[.int .u64 0, .int .u64 0])])) (fun _ i _ => 3 - (intOf i).toNat)
 case atStart => exact Or.inl ⟨rfl, rfl, H⟩
 case round =>
  clear H
  rcases hrel with ⟨rfl, rfl, H⟩ | ⟨rfl, rfl, H⟩ | ⟨rfl, rfl, H⟩
  ·cases hc : sa
   ·rw [hc] at cSa
    go_wp2_with (first
  | ((with_reducible refine g0_ rfl ?_); refine H.xb ?_; (intro g w H; simp only [Act.put, q1_, q2_, q3_]))
  | ((with_reducible refine g1_ rfl ?_); refine H.xa ?_; (intro g w H; simp only [Act.put, q1_, q2_, q3_]))
  | ((with_reducible refine g2_ rfl ?_); (first | refine H.xl ?_ | refine H.xm ?_); simp only [Act.put, q1_, q2_, q3_])
  | ((with_reducible refine g3_ rfl ?_); (first | refine H.xs ?_ | refine H.xt ?_); (intro w H; simp only [Act.put]))
  | ((with_reducible refine g4_ rfl ?_); refine H.ldo rfl rB rfl rfl hB (by first | with_reducible exact cat2_0 (bc _) (bc _)) (by rfl) ?_; simp only [Act.put, q1_, q2_, q3_])
  | (go_at_call 163; (with_reducible refine H.kc (cSa _) ?_; clear H; intro w H))
  )
    all_goals
     go_roundw
     case rel => exact Or.inr (Or.inl ⟨by go_num, (by first | rfl | simp), H.sub v4_⟩)
     case measure => simp [intOf]
   ·rw [hc] at cSa
    go_wp2_with (first
  | ((with_reducible refine g0_ rfl ?_); refine H.xb ?_; (intro g w H; simp only [Act.put, q1_, q2_, q3_]))
  | ((with_reducible refine g1_ rfl ?_); refine H.xa ?_; (intro g w H; simp only [Act.put, q1_, q2_, q3_]))
  | ((with_reducible refine g2_ rfl ?_); (first | refine H.xl ?_ | refine H.xm ?_); simp only [Act.put, q1_, q2_, q3_])
  | ((with_reducible refine g3_ rfl ?_); (first | refine H.xs ?_ | refine H.xt ?_); (intro w H; simp only [Act.put]))
  | ((with_reducible refine g4_ rfl ?_); refine H.ldo rfl rB rfl rfl hB (by first | with_reducible exact cat2_0 (bc _) (bc _)) (by rfl) ?_; simp only [Act.put, q1_, q2_, q3_])
  | (go_at_call 163; (with_reducible refine H.kc (cSa _) ?_; clear H; intro w H))
  )
    all_goals
     go_roundw
     case rel => exact Or.inr (Or.inl ⟨by go_num, (by first | rfl | simp), H.sub v4_⟩)
     case measure => simp [intOf]
  ·cases hc : sb
   ·rw [hc] at cSb
    go_wp2_with (first
  | ((with_reducible refine g0_ rfl ?_); refine H.xb ?_; (intro g w H; simp only [Act.put, q1_, q2_, q3_]))
  | ((with_reducible refine g1_ rfl ?_); refine H.xa ?_; (intro g w H; simp only [Act.put, q1_, q2_, q3_]))
  | ((with_reducible refine g2_ rfl ?_); (first | refine H.xl ?_ | refine H.xm ?_); simp only [Act.put, q1_, q2_, q3_])
  | ((with_reducible refine g3_ rfl ?_); (first | refine H.xs ?_ | refine H.xt ?_); (intro w H; simp only [Act.put]))
  | ((with_reducible refine g4_ rfl ?_); refine H.ldo rfl rB rfl rfl hB (by first | with_reducible exact cat2_1 (bc _) (bc _) rfl) (by rfl) ?_; simp only [Act.put, q1_, q2_, q3_])
  | (go_at_call 163; (with_reducible refine H.kc (cSb _) ?_; clear H; intro w H))
  )
    all_goals
     go_roundw
     case rel => exact Or.inr (Or.inr (⟨by go_num, (by first | rfl | simp), H.sub v4_⟩))
     case measure => simp [intOf]
   ·rw [hc] at cSb
    go_wp2_with (first
  | ((with_reducible refine g0_ rfl ?_); refine H.xb ?_; (intro g w H; simp only [Act.put, q1_, q2_, q3_]))
  | ((with_reducible refine g1_ rfl ?_); refine H.xa ?_; (intro g w H; simp only [Act.put, q1_, q2_, q3_]))
  | ((with_reducible refine g2_ rfl ?_); (first | refine H.xl ?_ | refine H.xm ?_); simp only [Act.put, q1_, q2_, q3_])
  | ((with_reducible refine g3_ rfl ?_); (first | refine H.xs ?_ | refine H.xt ?_); (intro w H; simp only [Act.put]))
  | ((with_reducible refine g4_ rfl ?_); refine H.ldo rfl rB rfl rfl hB (by first | with_reducible exact cat2_1 (bc _) (bc _) rfl) (by rfl) ?_; simp only [Act.put, q1_, q2_, q3_])
  | (go_at_call 163; (with_reducible refine H.kc (cSb _) ?_; clear H; intro w H))
  )
    all_goals
     go_roundw
     case rel => exact Or.inr (Or.inr (⟨by go_num, (by first | rfl | simp), H.sub v4_⟩))
     case measure => simp [intOf]
  ·go_wp2_with (first
  | ((with_reducible refine g0_ rfl ?_); refine H.xb ?_; (intro g w H; simp only [Act.put, q1_, q2_, q3_]))
  | ((with_reducible refine g1_ rfl ?_); refine H.xa ?_; (intro g w H; simp only [Act.put, q1_, q2_, q3_]))
  | ((with_reducible refine g2_ rfl ?_); (first | refine H.xl ?_ | refine H.xm ?_); simp only [Act.put, q1_, q2_, q3_])
  | ((with_reducible refine g3_ rfl ?_); (first | refine H.xs ?_ | refine H.xt ?_); (intro w H; simp only [Act.put]))
  | (go_at_call 85; (with_reducible refine H.kc (cN _) ?_; clear H; intro w H))
  )
   all_goals
    refine bodyPost_ret (results_ct rfl rfl (H.res rB v2_ v3_ (by rfl))) rfl ⟨?_, H.below⟩
    rfl
theorem r12Prod_no (f m n c : Nat) (sa : Option Addr) (w0 : World) (cL : ∀ w, Below w0.heap.size w0 w → CR_ 82 #[.int .u8 f, .int .u8 m, .slice sa n c] w (.bool false))  :
  CR_ 25 #[.int .u8 f, .int .u8 m, .slice sa n c] w0 (.tuple #[BV 0, .int .u8 0, .int .i64 2]) := by
 have H := Own.start w0
 go_enter Tryz.func25, Tryz.ntmps25
 exact walk3
theorem r12Prod_nil (f m c q1 : Nat) (sa : Option Addr) (w0 : World) (cL : ∀ w, Below w0.heap.size w0 w → CR_ 82 #[.int .u8 f, .int .u8 m, .slice sa 0 c] w (.bool true)) (c1 : CK_ 94 #[.int .u8 f, .bool false] (BV q1))  :
  CR_ 25 #[.int .u8 f, .int .u8 m, .slice sa 0 c] w0 (.tuple #[BV q1, .int .u8 0, .int .i64 0]) := by
 have H := Own.start w0
 go_enter Tryz.func25, Tryz.ntmps25
 exact walk3
theorem r12Prod_some (F : Nat → Nat → Nat × Nat × Int) (f m : Nat) (l : List Nat) (g o n c : Nat) (w0 : World) (hB : Bls w0 g o l) (hl : Hid (∀ b ∈ l, b < 2 ^ (64 * 2))) (hn : Hid (l.length = n)) (hsm : n ≤ 60) (hn0 : 0 < n) (cL : ∀ w, Below w0.heap.size w0 w → CR_ 82 #[.int .u8 f, .int .u8 m, .slice (some ⟨g, o, none⟩) n c] w (.bool true)) (cA : ∀ a b w, a < 2 ^ (64 * 2) → b < 2 ^ (64 * 2) → CR_ 95 #[.int .u8 f, .int .u8 m, BV a, BV b] w (.tuple #[BV (F a b).1, .int .u8 ((F a b).2.1 : Nat), .int .i64 (F a b).2.2])) :
  CR_ 25 #[.int .u8 f, .int .u8 m, .slice (some ⟨g, o, none⟩) n c] w0 (.tuple #[BV (sumF F l).1, .int .u8 (sumF F l).2, .int .i64 0]) := by
 obtain ⟨b0, hb0⟩ : ∃ b, l[0]? = some b := ⟨_, List.getElem?_eq_getElem (by rw [hn.out]; exact hn0)⟩
 have h1 := Lib.hid (sumF_one F l b0 hb0)
 have hk0 : (0 : Int) < (n : Int) := by omega
 have hk00 : ((n : Int) == 0) = false := by rw [beq_eq_false_iff_ne]; omega
 obtain ⟨R, hR⟩ : ∃ R : Value, Hid (R = .tuple #[BV (sumF F l).1, .int .u8 (sumF F l).2, .int .i64 0]) := ⟨_, Lib.hid rfl⟩
 rw [← hR.out]
 have H := Own.start w0
 go_enter Tryz.func25, Tryz.ntmps25
 go_wp2_with (first
  | ((with_reducible show wpList _ _ _ (⟨some 6, .alloc 27, _, _, _, _⟩ :: _) _ _); refine H.xa ?_; (intro gr w H; simp only [Act.put, q1_, q2_, q3_]))
  | ((with_reducible show wpList _ _ _ (⟨some 9, .alloc 27, _, _, _, _⟩ :: _) _ _); refine H.xa ?_; (intro gs w H; simp only [Act.put, q1_, q2_, q3_]))
  | ((with_reducible refine g0_ rfl ?_); refine H.xb ?_; (intro g w H; simp only [Act.put, q1_, q2_, q3_]))
  | ((with_reducible refine g1_ rfl ?_); refine H.xa ?_; (intro g w H; simp only [Act.put, q1_, q2_, q3_]))
  | ((with_reducible refine g2_ rfl ?_); (first | refine H.xl ?_ | refine H.xm ?_); simp only [Act.put, q1_, q2_, q3_])
  | ((with_reducible refine g3_ rfl ?_); (first | refine H.xs ?_ | refine H.xt ?_); (intro w H; simp only [Act.put]))
  | ((with_reducible refine g4_ rfl ?_); refine H.lde hB hb0 ?_; simp only [Act.put, q1_, q2_, q3_])
  | (go_at_call 82; (with_reducible refine H.kc (cL _ H.below) ?_; clear H; intro w H))
  )
 go_loopw [10, 11] (fun v i wr => ∃ j s : Nat, ∃ q : Int, j + 1 ≤ n ∧ i = .int .i64 ((j : Int) + 1) ∧ v = .int .u8 q ∧ Hid ((s, q) = sumF F (l.take (j + 1))) ∧ Own w0 wr [(gs, 27, bc s), (gr, 27, #[.int .u64 0, .int .u64 0])]) (fun _ i _ => n + 1 - (intOf i).toNat)
 case atStart => exact ⟨0, b0, 0, by omega, rfl, rfl, h1.out.symm, H.sub v4_⟩
 case round =>
  clear H h1
  obtain ⟨j, s, q, hj, rfl, rfl, hs, H⟩ := hrel
  by_cases hjt : j + 1 < n
  ·obtain ⟨b, hb⟩ : ∃ b, l[j + 1]? = some b := ⟨_, List.getElem?_eq_getElem (by rw [hn.out]; exact hjt)⟩
   have hd2 : decide ((j : Int) + 1 < (n : Int)) = true := by simp; omega
   have hslt : s < 2 ^ (64 * 2) := by have := sumF_lt F (l.take (j + 1)) (fun b hb => hl.out b (List.mem_of_mem_take hb)); rw [← hs.out] at this; exact this
   have cAb := fun w => cA s b w hslt (hl.out b (List.mem_of_getElem? hb))
   have h1 := Lib.hid (sumF_next F l (j + 1) b (by omega) hb)
   clear hslt
   go_wp2_with (first
  | ((with_reducible refine g0_ rfl ?_); refine H.xb ?_; (intro g w H; simp only [Act.put, q1_, q2_, q3_]))
  | ((with_reducible refine g1_ rfl ?_); refine H.xa ?_; (intro g w H; simp only [Act.put, q1_, q2_, q3_]))
  | ((with_reducible refine g2_ rfl ?_); (first | refine H.xl ?_ | refine H.xm ?_); simp only [Act.put, q1_, q2_, q3_])
  | ((with_reducible refine g3_ rfl ?_); (first | refine H.xs ?_ | refine H.xt ?_); (intro w H; simp only [Act.put]))
  | ((with_reducible refine g4_ rfl ?_); refine H.lde hB hb ?_; simp only [Act.put, q1_, q2_, q3_])
  | ((with_reducible show Code.wp _ (.region 10 _ true) _ _ _); refine H.heldSub rfl (List.Sublist.refl _) ?_; intro H; refine H.zr 0 ?_; (try simp only [Act.put, q1_, q2_, q3_]); (try simp only [q4_, q5_, q6_]); refine H.zr 1 ?_; (try simp only [Act.put, q1_, q2_, q3_]); (try simp only [q4_, q5_, q6_]); (first | refine H.zl 2 ?_ | refine H.zm 2 ?_); (try simp only [Act.put, q1_, q2_, q3_]); (try simp only [q4_, q5_, q6_]); refine H.zr 3 ?_; (try simp only [Act.put, q1_, q2_, q3_]); (try simp only [q4_, q5_, q6_]); refine H.zr 4 ?_; (try simp only [Act.put, q1_, q2_, q3_]); (try simp only [q4_, q5_, q6_]); refine H.zr 5 ?_ (hv := by intro w; go_simp; rw [if_pos (by omega)]); (try simp only [Act.put, q1_, q2_, q3_]); (try simp only [q4_, q5_, q6_]); refine H.zle 6 hB hb ?_; (try simp only [Act.put, q1_, q2_, q3_]); (try simp only [q4_, q5_, q6_]); refine held2 7 12 ?_ ?_; (unfold Oper.wp; go_simp; (go_at_call 95; (with_reducible refine H.kc (cAb _) ?_; clear H; intro w H)); refine H.nx ?_; (try simp only [Act.put, q1_, q2_, q3_]); (try simp only [q4_, q5_, q6_]); refine H.zr 8 ?_; (try simp only [Act.put, q1_, q2_, q3_]); (try simp only [q4_, q5_, q6_]); refine H.zr 9 ?_; (try simp only [Act.put, q1_, q2_, q3_]); (try simp only [q4_, q5_, q6_]); refine H.zr 10 ?_; (try simp only [Act.put, q1_, q2_, q3_]); (try simp only [q4_, q5_, q6_]); refine H.zr 11 ?_; (try simp only [Act.put, q1_, q2_, q3_]); (try simp only [q4_, q5_, q6_]); refine held1 12 ?_; refine H.ya ?_; intro g w H; refine H.nx ?_; (try simp only [Act.put, q1_, q2_, q3_]); (try simp only [q4_, q5_, q6_]); refine held1 13 ?_; (first | refine H.ys ?_ | refine H.yt ?_); intro w H; refine H.nx ?_; (try simp only [Act.put]); refine H.zr 14 ?_; (try simp only [Act.put, q1_, q2_, q3_]); (try simp only [q4_, q5_, q6_]); refine H.zr 15 ?_; (try simp only [Act.put, q1_, q2_, q3_]); (try simp only [q4_, q5_, q6_]); refine wpAnyH_done (by kernel_rfl) ?_ _); rotate_left; (refine H.ya ?_; intro g w H; refine H.nx ?_; (try simp only [Act.put, q1_, q2_, q3_]); (try simp only [q4_, q5_, q6_]); refine held1 7 ?_; unfold Oper.wp; go_simp; (go_at_call 95; (with_reducible refine H.kc (cAb _) ?_; clear H; intro w H)); refine H.nx ?_; (try simp only [Act.put, q1_, q2_, q3_]); (try simp only [q4_, q5_, q6_]); refine H.zr 8 ?_; (try simp only [Act.put, q1_, q2_, q3_]); (try simp only [q4_, q5_, q6_]); refine H.zr 9 ?_; (try simp only [Act.put, q1_, q2_, q3_]); (try simp only [q4_, q5_, q6_]); refine H.zr 10 ?_; (try simp only [Act.put, q1_, q2_, q3_]); (try simp only [q4_, q5_, q6_]); refine H.zr 11 ?_; (try simp only [Act.put, q1_, q2_, q3_]); (try simp only [q4_, q5_, q6_]); refine held1 13 ?_; (first | refine H.ys ?_ | refine H.yt ?_); intro w H; refine H.nx ?_; (try simp only [Act.put]); refine H.zr 14 ?_; (try simp only [Act.put, q1_, q2_, q3_]); (try simp only [q4_, q5_, q6_]); refine H.zr 15 ?_; (try simp only [Act.put, q1_, q2_, q3_]); (try simp only [q4_, q5_, q6_]); refine wpAnyH_done (by kernel_rfl) ?_ _))
  | (go_at_call 82; (with_reducible refine H.kc (cL _ H.below) ?_; clear H; intro w H))
  | (go_at_call 95; (with_reducible refine H.kc (cAb _) ?_; clear H; intro w H))
  )
   all_goals
    go_roundw
    case rel => exact ⟨j + 1, (F s b).1 % 2 ^ (64 * 2), Go.bits .or .u8 q ((F s b).2.1 : Nat), by omega, by go_num, rfl, (by show _ = sumF F _; rw [h1.out, ← hs.out]; rfl), (by have := bv_mod (F s b).1; injection this with e; unfold bc; rw [e]; exact H.sub (by repeat (first | with_reducible exact List.Sublist.refl _ | with_reducible apply List.Sublist.cons_cons | with_reducible apply List.Sublist.cons)))⟩
    case measure => first | (simp [intOf]; omega) | simp [intOf]
  ·obtain rfl : n = j + 1 := by omega
   have hd2 : decide ((j : Int) + 1 < ((j + 1 : Nat) : Int)) = false := by simp
   have h2 := hs.out
   rw [take_all l (j + 1) (by rw [hn.out]; exact Nat.le_refl _)] at h2
   have h3 := Lib.hid h2
   clear h2 hs
   go_wp2_with (first
  | ((with_reducible refine g0_ rfl ?_); refine H.xb ?_; (intro g w H; simp only [Act.put, q1_, q2_, q3_]))
  | ((with_reducible refine g1_ rfl ?_); refine H.xa ?_; (intro g w H; simp only [Act.put, q1_, q2_, q3_]))
  | ((with_reducible refine g2_ rfl ?_); (first | refine H.xl ?_ | refine H.xm ?_); simp only [Act.put, q1_, q2_, q3_])
  | ((with_reducible refine g3_ rfl ?_); (first | refine H.xs ?_ | refine H.xt ?_); (intro w H; simp only [Act.put]))
  | ((with_reducible refine g4_ rfl ?_); refine H.lde hB hb ?_; simp only [Act.put, q1_, q2_, q3_])
  | ((with_reducible show Code.wp _ (.region 10 _ true) _ _ _); refine H.heldSub rfl (List.Sublist.refl _) ?_; intro H; refine H.zr 0 ?_; (try simp only [Act.put, q1_, q2_, q3_]); (try simp only [q4_, q5_, q6_]); refine H.zr 1 ?_; (try simp only [Act.put, q1_, q2_, q3_]); (try simp only [q4_, q5_, q6_]); (first | refine H.zl 2 ?_ | refine H.zm 2 ?_); (try simp only [Act.put, q1_, q2_, q3_]); (try simp only [q4_, q5_, q6_]); refine H.zr 3 ?_; (try simp only [Act.put, q1_, q2_, q3_]); (try simp only [q4_, q5_, q6_]); refine H.zr 4 ?_; (try simp only [Act.put, q1_, q2_, q3_]); (try simp only [q4_, q5_, q6_]); refine H.zr 5 ?_ (hv := by intro w; go_simp; rw [if_pos (by omega)]); (try simp only [Act.put, q1_, q2_, q3_]); (try simp only [q4_, q5_, q6_]); refine H.zle 6 hB hb ?_; (try simp only [Act.put, q1_, q2_, q3_]); (try simp only [q4_, q5_, q6_]); refine held2 7 12 ?_ ?_; (unfold Oper.wp; go_simp; (go_at_call 95; (with_reducible refine H.kc (cAb _) ?_; clear H; intro w H)); refine H.nx ?_; (try simp only [Act.put, q1_, q2_, q3_]); (try simp only [q4_, q5_, q6_]); refine H.zr 8 ?_; (try simp only [Act.put, q1_, q2_, q3_]); (try simp only [q4_, q5_, q6_]); refine H.zr 9 ?_; (try simp only [Act.put, q1_, q2_, q3_]); (try simp only [q4_, q5_, q6_]); refine H.zr 10 ?_; (try simp only [Act.put, q1_, q2_, q3_]); (try simp only [q4_, q5_, q6_]); refine H.zr 11 ?_; (try simp only [Act.put, q1_, q2_, q3_]); (try simp only [q4_, q5_, q6_]); refine held1 12 ?_; refine H.ya ?_; intro g w H; refine H.nx ?_; (try simp only [Act.put, q1_, q2_, q3_]); (try simp only [q4_, q5_, q6_]); refine held1 13 ?_; (first | refine H.ys ?_ | refine H.yt ?_); intro w H; refine H.nx ?_; (try simp only [Act.put]); refine H.zr 14 ?_; (try simp only [Act.put, q1_, q2_, q3_]); (try simp only [q4_, q5_, q6_]); refine H.zr 15 ?_; (try simp only [Act.put, q1_, q2_, q3_]); (try simp only [q4_, q5_, q6_]); refine wpAnyH_done (by kernel_rfl) ?_ _); rotate_left; (refine H.ya ?_; intro g w H; refine H.nx ?_; (try simp only [Act.put, q1_, q2_, q3_]); (try simp only [q4_, q5_, q6_]); refine held1 7 ?_; unfold Oper.wp; go_simp; (go_at_call 95; (with_reducible refine H.kc (cAb _) ?_; clear H; intro w H)); refine H.nx ?_; (try simp only [Act.put, q1_, q2_, q3_]); (try simp only [q4_, q5_, q6_]); refine H.zr 8 ?_; (try simp only [Act.put, q1_, q2_, q3_]); (try simp only [q4_, q5_, q6_]); refine H.zr 9 ?_; (try simp only [Act.put, q1_, q2_, q3_]); (try simp only [q4_, q5_, q6_]); refine H.zr 10 ?_; (try simp only [Act.put, q1_, q2_, q3_]); (try simp only [q4_, q5_, q6_]); refine H.zr 11 ?_; (try simp only [Act.put, q1_, q2_, q3_]); (try simp only [q4_, q5_, q6_]); refine held1 13 ?_; (first | refine H.ys ?_ | refine H.yt ?_); intro w H; refine H.nx ?_; (try simp only [Act.put]); refine H.zr 14 ?_; (try simp only [Act.put, q1_, q2_, q3_]); (try simp only [q4_, q5_, q6_]); refine H.zr 15 ?_; (try simp only [Act.put, q1_, q2_, q3_]); (try simp only [q4_, q5_, q6_]); refine wpAnyH_done (by kernel_rfl) ?_ _))
  | (go_at_call 82; (with_reducible refine H.kc (cL _ H.below) ?_; clear H; intro w H))
  | (go_at_call 95; (with_reducible refine H.kc (cAb _) ?_; clear H; intro w H))
  )
   all_goals
    refine bodyPost_ret (results_ctt rfl rfl (H.res rB v2_ v3_ (by rfl))) rfl ⟨?_, H.below⟩
    rw [hR.out, ← h3.out]
    rfl
theorem odd_lim (n : Nat) : (Go.bits .and .u64 (limb n 0) 1 == 1) = decide (n % 2 = 1) := by
 have h1 : (1 : Int) = limb 1 0 := rfl
 rw [h1, limb_and, show n &&& 1 = n % 2 from Nat.and_one_is_mod n, ← h1]
 unfold limb limbN
 rw [Nat.mul_zero, Nat.pow_zero, Nat.div_one, Nat.mod_eq_of_lt (by omega), Bool.eq_iff_iff, beq_iff_eq, decide_eq_true_iff]
 omega
theorem halfN_in (a n : Nat) : halfN a n = -1 ∨ halfN a n = 0 ∨ halfN a n = 1 := by
 unfold halfN
 split
 ·simp
 ·split
  ·split <;> simp
  ·simp
theorem roundGrid_any (m s : Nat) (e at_ : Int) (neg mo : Bool) (w : World) (hT : Tab w) (hm : m < 256) (hs : s < top6) (h1 : -2000000 ≤ e) (h2 : e ≤ 2000000) (h3 : -2000000 ≤ at_) (h4 : at_ ≤ 2000000) (hf : e - at_ ≤ 384) :
  CR_ 144 #[.int .u8 m, RV neg s e mo, .int .i64 at_] w (.tuple #[W (gridN m neg s e mo at_).1, .bool (gridN m neg s e mo at_).2]) := by
 by_cases hn : at_ ≤ e
 ·have cL := fun w => wideLeft_any s (-(at_ - e)) w hs
  have hc : clip (-(at_ - e)) = (e - at_).toNat := by unfold clip; omega
  rw [hc] at cL
  have := roundGrid_up m s _ e at_ (at_ - e) neg mo _ w hT h1 h2 h3 h4 rfl (by omega) cL
  simp only [gridN, if_pos hn]
  exact this
 ·have cC := fun w hT => jamCut_any s (at_ - e) w hs hT
  have hin := halfN_in s (at_ - e).toNat
  have cR := fun (half : Int) (hh : half = -1 ∨ half = 0 ∨ half = 1) (ex : Bool) w => roundUp_any m neg (Go.bits .and .u64 (limb (s / 2 ^ (at_ - e).toNat) 0) 1 == 1) half ex w hm hh
  simp only [gridN, if_neg hn]
  cases mo with
  | false =>
   simp only [Bool.false_and, cond_false, Bool.not_false, Bool.and_true]
   have cR' := cR _ hin (decide (s % 2 ^ (at_ - e).toNat = 0))
   rw [← odd_lim]
   cases hu : upB m neg (Go.bits .and .u64 (limb (s / 2 ^ (at_ - e).toNat) 0) 1 == 1) (halfN s (at_ - e).toNat) (decide (s % 2 ^ (at_ - e).toNat = 0)) with
   | true =>
    rw [hu] at cR'
    exact roundGrid_f_t m s _ e at_ (at_ - e) _ neg _ w hT h1 h2 h3 h4 rfl (by omega) cC cR'
   | false =>
    rw [hu] at cR'
    exact roundGrid_f_f m s _ e at_ (at_ - e) _ neg _ w hT h1 h2 h3 h4 rfl (by omega) cC cR'
  | true =>
   simp only [Bool.true_and, Bool.not_true, Bool.and_false]
   rw [← odd_lim]
   by_cases hz : halfN s (at_ - e).toNat = 0
   ·have hz' : (halfN s (at_ - e).toNat == 0) = true := by rw [hz]; rfl
    have cR' := cR 1 (by omega) false
    rw [decide_eq_true hz, cond_true]
    cases hu : upB m neg (Go.bits .and .u64 (limb (s / 2 ^ (at_ - e).toNat) 0) 1 == 1) 1 false with
    | true =>
     rw [hu] at cR'
     exact roundGrid_tz_t m s _ e at_ (at_ - e) _ neg _ w hT h1 h2 h3 h4 rfl (by omega) hz' cC cR'
    | false =>
     rw [hu] at cR'
     exact roundGrid_tz_f m s _ e at_ (at_ - e) _ neg _ w hT h1 h2 h3 h4 rfl (by omega) hz' cC cR'
   ·have hz' : (halfN s (at_ - e).toNat == 0) = false := by rw [beq_eq_false_iff_ne]; exact hz
    have cR' := cR _ hin false
    rw [decide_eq_false hz, cond_false]
    cases hu : upB m neg (Go.bits .and .u64 (limb (s / 2 ^ (at_ - e).toNat) 0) 1 == 1) (halfN s (at_ - e).toNat) false with
    | true =>
     rw [hu] at cR'
     exact roundGrid_tn_t m s _ e at_ (at_ - e) _ neg _ w hT h1 h2 h3 h4 rfl (by omega) hz' cC cR'
    | false =>
     rw [hu] at cR'
     exact roundGrid_tn_f m s _ e at_ (at_ - e) _ neg _ w hT h1 h2 h3 h4 rfl (by omega) hz' cC cR'
end Go.Proofs.YtgmhmpflmgfcdaaGreatDoor
