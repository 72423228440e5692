/- Part 6 of what is proved: R2n, Bld, R8u. -/
import Derived.Test.YtgmhmpflmgfcdaaGreatDoorHf1
import Derived.Test.YtgmhmpflmgfcdaaGreatDoorHf2
import Derived.Test.YtgmhmpflmgfcdaaGreatDoorHf3
import Derived.Test.YtgmhmpflmgfcdaaGreatDoorHf4
import Derived.Test.YtgmhmpflmgfcdaaGreatDoorHf5
set_option linter.unusedSimpArgs false
set_option linter.unusedVariables false
set_option linter.unnecessarySimpa false
set_option maxRecDepth 100000
set_option maxHeartbeats 1600000
namespace Go.Proofs.YtgmhmpflmgfcdaaGreatDoor
open Go.RowKit
theorem set_lowR (V k : Nat) (hk : k < 6) : setRow (limbs (V % 2 ^ (64 * k))) k (#[.int .u64 (limb V k)] : Array Value).toList = limbs (V % 2 ^ (64 * (k + 1))) := by
  rw [mod_low]; exact limbs_put _ _ k hk (Nat.mod_lt _ (pw_pos k)) (limbN_lt V k)
theorem add_word (a b k : Nat) : addW (limb a k) (limb b k) (cbit a b k) = limb (a + b) k := by
  unfold limb
  rw [addW_nat]
  have h := sum_step a b k
  rw [mod_low] at h
  have := Nat.add_left_cancel h
  have := Nat.eq_of_mul_eq_mul_right (pw_pos k) this
  rw [this]
theorem car_word (a b k : Nat) : carW (limb a k) (limb b k) (cbit a b k) = cbit a b (k + 1) := by
  unfold limb
  rw [carW_nat, cbit_step]
theorem r2Of_any (x : Nat) (w : World) (hx : x < 18446744073709551616) :
    Calls Tryz.prog 165 #[.int .u64 x] w fun e w' => e = .returned (W x) ∧ Below w.heap.size w w' := by
  have H := Own.start w
  have HR := Lib.hid (show W (limbN x 0) = W x by rw [show limbN x 0 = x by unfold limbN; rw [Nat.mul_zero, Nat.pow_zero, Nat.div_one, Nat.mod_eq_of_lt hx]])
  have hl : (x : Int) = limb x 0 := by unfold limb limbN; rw [Nat.mul_zero, Nat.pow_zero, Nat.div_one, Nat.mod_eq_of_lt hx]
  rw [hl]
  clear hx hl
  go_enter Tryz.func165, Tryz.ntmps165
  exact walk1
set_option maxHeartbeats 3200000 in
theorem r2Add_any (a b : Nat) (w0 : World) :
    Calls Tryz.prog 217 #[W a, W b] w0 fun e w' => e = .returned (.tuple #[W (a + b), .bool (cbit a b 6)]) ∧ Below w0.heap.size w0 w' := by
  have H := Own.start w0
  go_enter Tryz.func217, Tryz.ntmps217
  go_wp2_with (first
    | ((with_reducible show wpList _ _ _ (⟨some 2, .box _ _, _, _, _, _⟩ :: _) _ _); refine H.xb ?_; (intro ga w H; simp only [Act.put, q1_, q2_, q3_]))
    | ((with_reducible show wpList _ _ _ (⟨some 3, .box _ _, _, _, _, _⟩ :: _) _ _); refine H.xb ?_; (intro gb w H; simp only [Act.put, q1_, q2_, q3_]))
    | ((with_reducible show wpList _ _ _ (⟨some 4, .alloc 60, _, _, _, _⟩ :: _) _ _); refine H.xa ?_; (intro gr w H; simp only [Act.put, q1_, q2_, q3_]))
    | ((with_reducible show wpList _ _ _ (⟨some 6, .alloc 60, _, _, _, _⟩ :: _) _ _); refine H.xa ?_; (intro gs w H; simp only [Act.put, q1_, q2_, q3_]))
    | ((with_reducible show wpList _ _ _ (⟨_, .box _ _, _, _, _, _⟩ :: _) _ _); refine H.xb ?_; (intro g w H; simp only [Act.put, q1_, q2_, q3_]))
    | ((with_reducible show wpList _ _ _ (⟨_, .alloc _, _, _, _, _⟩ :: _) _ _); refine H.xa ?_; (intro g w H; simp only [Act.put, q1_, q2_, q3_]))
    | ((with_reducible show wpList _ _ _ (⟨_, .load _ _, _, _, _, _⟩ :: _) _ _); (first | refine H.xl ?_ | refine H.xm ?_); simp only [Act.put, q1_, q2_, q3_])
    | ((with_reducible show wpList _ _ _ (⟨_, .store _ _ _, _, _, _, _⟩ :: _) _ _); (first | refine H.xs ?_ | refine H.xt ?_); (intro w H; simp only [Act.put]))
    | (go_at_call 230; ((with_reducible refine (cS _).mono ?_); rintro e w ⟨rfl, hb⟩; replace H := H.call hb; clear hb))
    )
  go_loopw [7, 8] (fun cv iv wr => ∃ (k : Nat), k ≤ 6 ∧ iv = .int .i64 k ∧ cv = .bool (cbit a b k) ∧ Own w0 wr [(gs, 60, limbs ((a + b) % 2 ^ (64 * k))), (gr, 60, limbs 0), (gb, 60, limbs b), (ga, 60, limbs a)]) (fun _ i _ => 6 - (intOf i).toNat)
  case atStart => exact ⟨0, by omega, rfl, by rw [cbit_zero], by rw [Nat.mul_zero, Nat.pow_zero, Nat.mod_one]; exact H⟩
  case round =>
    clear H
    obtain ⟨k, hk, rfl, rfl, H⟩ := hrel
    by_cases hlt : k < 6
    · have hlti : (k : Int) < 6 := by omega
      have G1 : (limbs a)[k]? = some (.int .u64 (limb a k)) := limbs_get a k hlt
      have G2 : (limbs b)[k]? = some (.int .u64 (limb b k)) := limbs_get b k hlt
      have cS := fun w => r1Add_any (limb a k) (limb b k) (cbit a b k) w (limb_w a k) (limb_w b k)
      rw [add_word, car_word] at cS
      go_wp2_with (first
    | ((with_reducible show wpList _ _ _ (⟨some 2, .box _ _, _, _, _, _⟩ :: _) _ _); refine H.xb ?_; (intro ga w H; simp only [Act.put, q1_, q2_, q3_]))
    | ((with_reducible show wpList _ _ _ (⟨some 3, .box _ _, _, _, _, _⟩ :: _) _ _); refine H.xb ?_; (intro gb w H; simp only [Act.put, q1_, q2_, q3_]))
    | ((with_reducible show wpList _ _ _ (⟨some 4, .alloc 60, _, _, _, _⟩ :: _) _ _); refine H.xa ?_; (intro gr w H; simp only [Act.put, q1_, q2_, q3_]))
    | ((with_reducible show wpList _ _ _ (⟨some 6, .alloc 60, _, _, _, _⟩ :: _) _ _); refine H.xa ?_; (intro gs w H; simp only [Act.put, q1_, q2_, q3_]))
    | ((with_reducible show wpList _ _ _ (⟨_, .load 25 _, _, _, _, _⟩ :: _) _ _); refine H.xm ?_ (hv := by first | with_reducible exact G1 | with_reducible exact G2); simp only [Act.put, q1_, q2_, q3_])
    | ((with_reducible show wpList _ _ _ (⟨_, .store 25 _ _, _, _, _, _⟩ :: _) _ _); refine H.xt ?_ (hv := set_lowR _ _ hlt); (intro w H; simp only [Act.put]))
    | ((with_reducible show wpList _ _ _ (⟨_, .box _ _, _, _, _, _⟩ :: _) _ _); refine H.xb ?_; (intro g w H; simp only [Act.put, q1_, q2_, q3_]))
    | ((with_reducible show wpList _ _ _ (⟨_, .alloc _, _, _, _, _⟩ :: _) _ _); refine H.xa ?_; (intro g w H; simp only [Act.put, q1_, q2_, q3_]))
    | ((with_reducible show wpList _ _ _ (⟨_, .load _ _, _, _, _, _⟩ :: _) _ _); (first | refine H.xl ?_ | refine H.xm ?_); simp only [Act.put, q1_, q2_, q3_])
    | ((with_reducible show wpList _ _ _ (⟨_, .store _ _ _, _, _, _, _⟩ :: _) _ _); (first | refine H.xs ?_ | refine H.xt ?_); (intro w H; simp only [Act.put]))
    | ((with_reducible show Code.wp _ (.region 6 _ true) _ _ _); refine H.heldSub rfl (List.Sublist.refl _) ?_; intro H; refine H.zr 0 ?_; (try simp only [Act.put, q1_, q2_, q3_]); (try simp only [q4_, q5_, q6_]); refine H.zr 1 ?_; (try simp only [Act.put, q1_, q2_, q3_]); (try simp only [q4_, q5_, q6_]); (first | refine H.zm 2 ?_ (hv := by first | with_reducible exact G1 | with_reducible exact G2) | refine H.zl 2 ?_ | refine H.zm 2 ?_); (try simp only [Act.put, q1_, q2_, q3_]); (try simp only [q4_, q5_, q6_]); refine H.zr 3 ?_; (try simp only [Act.put, q1_, q2_, q3_]); (try simp only [q4_, q5_, q6_]); refine H.zr 4 ?_; (try simp only [Act.put, q1_, q2_, q3_]); (try simp only [q4_, q5_, q6_]); (first | refine H.zm 5 ?_ (hv := by first | with_reducible exact G1 | with_reducible exact G2) | refine H.zl 5 ?_ | refine H.zm 5 ?_); (try simp only [Act.put, q1_, q2_, q3_]); (try simp only [q4_, q5_, q6_]); refine H.zr 6 ?_; (try simp only [Act.put, q1_, q2_, q3_]); (try simp only [q4_, q5_, q6_]); refine held1 7 ?_; unfold Oper.wp; go_simp; (go_at_call 230; ((with_reducible refine (cS _).mono ?_); rintro e w ⟨rfl, hb⟩; replace H := H.call hb; clear hb)); refine H.nx ?_; (try simp only [Act.put, q1_, q2_, q3_]); (try simp only [q4_, q5_, q6_]); refine H.zr 8 ?_; (try simp only [Act.put, q1_, q2_, q3_]); (try simp only [q4_, q5_, q6_]); refine H.zr 9 ?_; (try simp only [Act.put, q1_, q2_, q3_]); (try simp only [q4_, q5_, q6_]); refine H.zr 10 ?_; (try simp only [Act.put, q1_, q2_, q3_]); (try simp only [q4_, q5_, q6_]); refine H.zr 11 ?_; (try simp only [Act.put, q1_, q2_, q3_]); (try simp only [q4_, q5_, q6_]); refine H.zr 12 ?_; (try simp only [Act.put, q1_, q2_, q3_]); (try simp only [q4_, q5_, q6_]); refine wpAnyH_done (by kernel_rfl) ?_ _)
    | (go_at_call 230; ((with_reducible refine (cS _).mono ?_); rintro e w ⟨rfl, hb⟩; replace H := H.call hb; clear hb))
    )
      all_goals
        go_roundw
        case rel => exact ⟨k + 1, by omega, by go_num, rfl, H⟩
        case measure => simp [intOf] <;> omega
    · obtain rfl : k = 6 := by omega
      rw [← top6.eq_1, limbs_mod] at H
      clear hlt hk
      go_wp2_with (first
    | ((with_reducible show wpList _ _ _ (⟨some 2, .box _ _, _, _, _, _⟩ :: _) _ _); refine H.xb ?_; (intro ga w H; simp only [Act.put, q1_, q2_, q3_]))
    | ((with_reducible show wpList _ _ _ (⟨some 3, .box _ _, _, _, _, _⟩ :: _) _ _); refine H.xb ?_; (intro gb w H; simp only [Act.put, q1_, q2_, q3_]))
    | ((with_reducible show wpList _ _ _ (⟨some 4, .alloc 60, _, _, _, _⟩ :: _) _ _); refine H.xa ?_; (intro gr w H; simp only [Act.put, q1_, q2_, q3_]))
    | ((with_reducible show wpList _ _ _ (⟨some 6, .alloc 60, _, _, _, _⟩ :: _) _ _); refine H.xa ?_; (intro gs w H; simp only [Act.put, q1_, q2_, q3_]))
    | ((with_reducible show wpList _ _ _ (⟨_, .box _ _, _, _, _, _⟩ :: _) _ _); refine H.xb ?_; (intro g w H; simp only [Act.put, q1_, q2_, q3_]))
    | ((with_reducible show wpList _ _ _ (⟨_, .alloc _, _, _, _, _⟩ :: _) _ _); refine H.xa ?_; (intro g w H; simp only [Act.put, q1_, q2_, q3_]))
    | ((with_reducible show wpList _ _ _ (⟨_, .load _ _, _, _, _, _⟩ :: _) _ _); (first | refine H.xl ?_ | refine H.xm ?_); simp only [Act.put, q1_, q2_, q3_])
    | ((with_reducible show wpList _ _ _ (⟨_, .store _ _ _, _, _, _, _⟩ :: _) _ _); (first | refine H.xs ?_ | refine H.xt ?_); (intro w H; simp only [Act.put]))
    | (go_at_call 230; ((with_reducible refine (cS _).mono ?_); rintro e w ⟨rfl, hb⟩; replace H := H.call hb; clear hb))
    )
      refine bodyPost_ret (results_ct rfl rfl (H.res rW v3_ (ext_limbs _) (by rfl))) rfl ⟨?_, H.below⟩
      rfl
set_option maxHeartbeats 3200000 in
theorem r2Left_any (a : Nat) (x : Int) (w0 : World) (ha : a < top6) :
    Calls Tryz.prog 164 #[W a, .int .i64 x] w0 fun e w' => e = .returned (.tuple #[W (a * 2 ^ clip x), .bool (decide (top6 ≤ a * 2 ^ clip x))]) ∧ Below w0.heap.size w0 w' := by
  have H := Own.start w0
  have cC := fun w => r2Count_any x w
  obtain ⟨n, hn⟩ : ∃ n, clip x = n := ⟨_, rfl⟩
  have hn4 : n ≤ 384 := by unfold clip at hn; omega
  rw [hn] at cC ⊢
  clear hn
  have HA := Lib.hid ha
  clear ha
  go_enter Tryz.func164, Tryz.ntmps164
  go_wp2_with (first
    | ((with_reducible show wpList _ _ _ (⟨some 2, .box _ _, _, _, _, _⟩ :: _) _ _); refine H.xb ?_; (intro ga w H; simp only [Act.put, q1_, q2_, q3_]))
    | ((with_reducible show wpList _ _ _ (⟨some 4, .alloc 60, _, _, _, _⟩ :: _) _ _); refine H.xa ?_; (intro gr w H; simp only [Act.put, q1_, q2_, q3_]))
    | ((with_reducible show wpList _ _ _ (⟨some 6, .alloc 60, _, _, _, _⟩ :: _) _ _); refine H.xa ?_; (intro gb w H; simp only [Act.put, q1_, q2_, q3_]))
    | ((with_reducible show wpList _ _ _ (⟨_, .box _ _, _, _, _, _⟩ :: _) _ _); refine H.xb ?_; (intro g w H; simp only [Act.put, q1_, q2_, q3_]))
    | ((with_reducible show wpList _ _ _ (⟨_, .alloc _, _, _, _, _⟩ :: _) _ _); refine H.xa ?_; (intro g w H; simp only [Act.put, q1_, q2_, q3_]))
    | ((with_reducible show wpList _ _ _ (⟨_, .load _ _, _, _, _, _⟩ :: _) _ _); (first | refine H.xl ?_ | refine H.xm ?_); simp only [Act.put, q1_, q2_, q3_])
    | ((with_reducible show wpList _ _ _ (⟨_, .store _ _ _, _, _, _, _⟩ :: _) _ _); (first | refine H.xs ?_ | refine H.xt ?_); (intro w H; simp only [Act.put]))
    | (go_at_call 216; ((with_reducible refine (cC _).mono ?_); rintro e w ⟨rfl, hb⟩; replace H := H.call hb; clear hb))
    | (go_at_call 192; ((with_reducible refine (cB _).mono ?_); rintro e w ⟨rfl, hb⟩; replace H := H.call hb; clear hb))
    )
  go_loopw [7, 8] (fun l i wr => ∃ (k : Nat), k ≤ 384 ∧ i = .int .i64 k ∧ l = .bool (lostLi a n k) ∧ Own w0 wr [(gb, 60, limbs (leftV a n k)), (gr, 60, limbs 0), (ga, 60, limbs a)]) (fun _ i _ => 384 - (intOf i).toNat)
  case atStart => exact ⟨0, by omega, rfl, by rw [lostLi_lo a n 0 (by omega)], by rw [leftV_zero]; exact H⟩
  case round =>
    clear H
    obtain ⟨k, hk, rfl, rfl, H⟩ := hrel
    by_cases hlt : k < 384
    · have hlti : (k : Int) < 384 := by omega
      have cB := fun w => r2Bit_any a k w hlt
      cases hb : a.testBit k
      · rw [hb] at cB
        have h1 := Lib.hid (lostLi_f a n k hb)
        have h2 := Lib.hid (leftV_f a n k hb)
        clear hb cC
        go_wp2_with (first
    | ((with_reducible show wpList _ _ _ (⟨some 2, .box _ _, _, _, _, _⟩ :: _) _ _); refine H.xb ?_; (intro ga w H; simp only [Act.put, q1_, q2_, q3_]))
    | ((with_reducible show wpList _ _ _ (⟨some 4, .alloc 60, _, _, _, _⟩ :: _) _ _); refine H.xa ?_; (intro gr w H; simp only [Act.put, q1_, q2_, q3_]))
    | ((with_reducible show wpList _ _ _ (⟨some 6, .alloc 60, _, _, _, _⟩ :: _) _ _); refine H.xa ?_; (intro gb w H; simp only [Act.put, q1_, q2_, q3_]))
    | ((with_reducible show wpList _ _ _ (⟨_, .box _ _, _, _, _, _⟩ :: _) _ _); refine H.xb ?_; (intro g w H; simp only [Act.put, q1_, q2_, q3_]))
    | ((with_reducible show wpList _ _ _ (⟨_, .alloc _, _, _, _, _⟩ :: _) _ _); refine H.xa ?_; (intro g w H; simp only [Act.put, q1_, q2_, q3_]))
    | ((with_reducible show wpList _ _ _ (⟨_, .load _ _, _, _, _, _⟩ :: _) _ _); (first | refine H.xl ?_ | refine H.xm ?_); simp only [Act.put, q1_, q2_, q3_])
    | ((with_reducible show wpList _ _ _ (⟨_, .store _ _ _, _, _, _, _⟩ :: _) _ _); (first | refine H.xs ?_ | refine H.xt ?_); (intro w H; simp only [Act.put]))
    | (go_at_call 216; ((with_reducible refine (cC _).mono ?_); rintro e w ⟨rfl, hb⟩; replace H := H.call hb; clear hb))
    | (go_at_call 192; ((with_reducible refine (cB _).mono ?_); rintro e w ⟨rfl, hb⟩; replace H := H.call hb; clear hb))
    )
        all_goals
          go_roundw
          case rel => exact ⟨k + 1, by omega, by go_num, by rw [h1.out], by rw [h2.out]; exact H⟩
          case measure => simp [intOf] <;> omega
      · rw [hb] at cB
        by_cases hnk : k + n < 384
        · have h1 := Lib.hid (show lostLi a n (k + 1) = lostLi a n k by rw [lostLi_lo a n (k + 1) (by omega), lostLi_lo a n k (by omega)])
          have h2 := Lib.hid (leftV_t a n k hb hnk).1
          have h3 := Lib.hid (leftV_t a n k hb hnk).2
          obtain ⟨j, hj⟩ : ∃ j, k + n = j := ⟨_, rfl⟩
          have e0 : (k : Int) + (n : Int) = (j : Int) := by omega
          have e1 : IntKind.i64.wrap ((k : Int) + (n : Int)) = (j : Int) := by rw [e0]; exact IntWalk.i64_in _ (by omega)
          have hge : (j : Int) < 384 := by omega
          have hge2 : (k : Int) + (n : Int) < 384 := by omega
          obtain ⟨qi, hqi⟩ : ∃ qi : Nat, (j : Int) / 64 = qi := ⟨j / 64, by omega⟩
          obtain ⟨sh, hsh⟩ : ∃ sh : Nat, (j : Int) % 64 = sh := ⟨j % 64, by omega⟩
          have HM := Lib.hid (show j = 64 * qi + sh by omega)
          have hs64 : sh < 64 := by omega
          have hq6 : qi < 6 := by omega
          have hq6i : (qi : Int) < 6 := by omega
          have t1 : IntKind.i64.wrap ((j : Int).tdiv 64) = (qi : Int) := by rw [Int.tdiv_eq_ediv_of_nonneg (by omega), hqi]; exact IntWalk.i64_in _ (by omega)
          have t2 : (j : Int).tmod 64 = (sh : Int) := by rw [Int.tmod_eq_emod_of_nonneg (by omega), hsh]
          have t3 : IntKind.u64.wrap (sh : Int) = (sh : Int) := by rw [IntKind.wrap_u64]; omega
          have t4 : min sh 64 = sh := by omega
          rw [hj] at h2 h3
          obtain ⟨V, hV⟩ : ∃ V, leftV a n k = V := ⟨_, rfl⟩
          rw [hV] at H h2 h3
          have G : (limbs V)[qi]? = some (.int .u64 (limb V qi)) := limbs_get V qi hq6
          clear hV cC hb hj hnk
          go_wp2_with (first
    | ((with_reducible show wpList _ _ _ (⟨some 2, .box _ _, _, _, _, _⟩ :: _) _ _); refine H.xb ?_; (intro ga w H; simp only [Act.put, q1_, q2_, q3_]))
    | ((with_reducible show wpList _ _ _ (⟨some 4, .alloc 60, _, _, _, _⟩ :: _) _ _); refine H.xa ?_; (intro gr w H; simp only [Act.put, q1_, q2_, q3_]))
    | ((with_reducible show wpList _ _ _ (⟨some 6, .alloc 60, _, _, _, _⟩ :: _) _ _); refine H.xa ?_; (intro gb w H; simp only [Act.put, q1_, q2_, q3_]))
    | ((with_reducible show wpList _ _ _ (⟨_, .load 25 _, _, _, _, _⟩ :: _) _ _); refine H.xm ?_ (hv := by first | with_reducible exact G); simp only [Act.put, q1_, q2_, q3_])
    | ((with_reducible show wpList _ _ _ (⟨_, .store 25 _ _, _, _, _, _⟩ :: _) _ _); refine H.xt ?_ (hv := set_bit_at _ _ _ _ h3.out HM.out hs64 hq6); (intro w H; simp only [Act.put]))
    | ((with_reducible show wpList _ _ _ (⟨_, .box _ _, _, _, _, _⟩ :: _) _ _); refine H.xb ?_; (intro g w H; simp only [Act.put, q1_, q2_, q3_]))
    | ((with_reducible show wpList _ _ _ (⟨_, .alloc _, _, _, _, _⟩ :: _) _ _); refine H.xa ?_; (intro g w H; simp only [Act.put, q1_, q2_, q3_]))
    | ((with_reducible show wpList _ _ _ (⟨_, .load _ _, _, _, _, _⟩ :: _) _ _); (first | refine H.xl ?_ | refine H.xm ?_); simp only [Act.put, q1_, q2_, q3_])
    | ((with_reducible show wpList _ _ _ (⟨_, .store _ _ _, _, _, _, _⟩ :: _) _ _); (first | refine H.xs ?_ | refine H.xt ?_); (intro w H; simp only [Act.put]))
    | (go_at_call 216; ((with_reducible refine (cC _).mono ?_); rintro e w ⟨rfl, hb⟩; replace H := H.call hb; clear hb))
    | (go_at_call 192; ((with_reducible refine (cB _).mono ?_); rintro e w ⟨rfl, hb⟩; replace H := H.call hb; clear hb))
    )
          all_goals
            go_roundw
            case rel => exact ⟨k + 1, by omega, by go_num, by rw [h1.out], by rw [h2.out]; exact H⟩
            case measure => simp [intOf] <;> omega
        · have h1 := Lib.hid (lostLi_t a n k hb (by omega))
          have h2 := Lib.hid (leftV_o a n k hb (by omega))
          have hge : 384 ≤ (k : Int) + (n : Int) := by omega
          clear cC hb hnk
          go_wp2_with (first
    | ((with_reducible show wpList _ _ _ (⟨some 2, .box _ _, _, _, _, _⟩ :: _) _ _); refine H.xb ?_; (intro ga w H; simp only [Act.put, q1_, q2_, q3_]))
    | ((with_reducible show wpList _ _ _ (⟨some 4, .alloc 60, _, _, _, _⟩ :: _) _ _); refine H.xa ?_; (intro gr w H; simp only [Act.put, q1_, q2_, q3_]))
    | ((with_reducible show wpList _ _ _ (⟨some 6, .alloc 60, _, _, _, _⟩ :: _) _ _); refine H.xa ?_; (intro gb w H; simp only [Act.put, q1_, q2_, q3_]))
    | ((with_reducible show wpList _ _ _ (⟨_, .box _ _, _, _, _, _⟩ :: _) _ _); refine H.xb ?_; (intro g w H; simp only [Act.put, q1_, q2_, q3_]))
    | ((with_reducible show wpList _ _ _ (⟨_, .alloc _, _, _, _, _⟩ :: _) _ _); refine H.xa ?_; (intro g w H; simp only [Act.put, q1_, q2_, q3_]))
    | ((with_reducible show wpList _ _ _ (⟨_, .load _ _, _, _, _, _⟩ :: _) _ _); (first | refine H.xl ?_ | refine H.xm ?_); simp only [Act.put, q1_, q2_, q3_])
    | ((with_reducible show wpList _ _ _ (⟨_, .store _ _ _, _, _, _, _⟩ :: _) _ _); (first | refine H.xs ?_ | refine H.xt ?_); (intro w H; simp only [Act.put]))
    | (go_at_call 216; ((with_reducible refine (cC _).mono ?_); rintro e w ⟨rfl, hb⟩; replace H := H.call hb; clear hb))
    | (go_at_call 192; ((with_reducible refine (cB _).mono ?_); rintro e w ⟨rfl, hb⟩; replace H := H.call hb; clear hb))
    )
          all_goals
            go_roundw
            case rel => exact ⟨k + 1, by omega, by go_num, by rw [h1.out], by rw [h2.out]; exact H⟩
            case measure => simp [intOf] <;> omega
    · have hk384 : k = 384 := by omega
      have h1 := Lib.hid (lostLi_all a n k hk384 HA.out hn4)
      rw [leftV_all a n k hk384 HA.out, limbs_mod] at H
      generalize lostLi a n k = l at *
      subst hk384
      clear cC hlt hk
      go_wp2_with (first
    | ((with_reducible show wpList _ _ _ (⟨some 2, .box _ _, _, _, _, _⟩ :: _) _ _); refine H.xb ?_; (intro ga w H; simp only [Act.put, q1_, q2_, q3_]))
    | ((with_reducible show wpList _ _ _ (⟨some 4, .alloc 60, _, _, _, _⟩ :: _) _ _); refine H.xa ?_; (intro gr w H; simp only [Act.put, q1_, q2_, q3_]))
    | ((with_reducible show wpList _ _ _ (⟨some 6, .alloc 60, _, _, _, _⟩ :: _) _ _); refine H.xa ?_; (intro gb w H; simp only [Act.put, q1_, q2_, q3_]))
    | ((with_reducible show wpList _ _ _ (⟨_, .box _ _, _, _, _, _⟩ :: _) _ _); refine H.xb ?_; (intro g w H; simp only [Act.put, q1_, q2_, q3_]))
    | ((with_reducible show wpList _ _ _ (⟨_, .alloc _, _, _, _, _⟩ :: _) _ _); refine H.xa ?_; (intro g w H; simp only [Act.put, q1_, q2_, q3_]))
    | ((with_reducible show wpList _ _ _ (⟨_, .load _ _, _, _, _, _⟩ :: _) _ _); (first | refine H.xl ?_ | refine H.xm ?_); simp only [Act.put, q1_, q2_, q3_])
    | ((with_reducible show wpList _ _ _ (⟨_, .store _ _ _, _, _, _, _⟩ :: _) _ _); (first | refine H.xs ?_ | refine H.xt ?_); (intro w H; simp only [Act.put]))
    | (go_at_call 216; ((with_reducible refine (cC _).mono ?_); rintro e w ⟨rfl, hb⟩; replace H := H.call hb; clear hb))
    | (go_at_call 192; ((with_reducible refine (cB _).mono ?_); rintro e w ⟨rfl, hb⟩; replace H := H.call hb; clear hb))
    )
      refine bodyPost_ret (results_ct rfl rfl (H.res rW v3_ (ext_limbs _) (by rfl))) rfl ⟨?_, H.below⟩
      rw [h1.out]; rfl
set_option maxHeartbeats 3200000 in
theorem r2Len_any (a : Nat) (w0 : World) (ha : a < top6) :
    Calls Tryz.prog 125 #[W a] w0 fun e w' => e = .returned (.int .i64 (lenN a : Nat)) ∧ Below w0.heap.size w0 w' := by
  have H := Own.start w0
  have HA := Lib.hid ha
  clear ha
  go_enter Tryz.func125, Tryz.ntmps125
  go_wp2_with (first
    | ((with_reducible show wpList _ _ _ (⟨some 1, .box _ _, _, _, _, _⟩ :: _) _ _); refine H.xb ?_; (intro ga w H; simp only [Act.put, q1_, q2_, q3_]))
    | ((with_reducible show wpList _ _ _ (⟨_, .box _ _, _, _, _, _⟩ :: _) _ _); refine H.xb ?_; (intro g w H; simp only [Act.put, q1_, q2_, q3_]))
    | ((with_reducible show wpList _ _ _ (⟨_, .alloc _, _, _, _, _⟩ :: _) _ _); refine H.xa ?_; (intro g w H; simp only [Act.put, q1_, q2_, q3_]))
    | ((with_reducible show wpList _ _ _ (⟨_, .load _ _, _, _, _, _⟩ :: _) _ _); (first | refine H.xl ?_ | refine H.xm ?_); simp only [Act.put, q1_, q2_, q3_])
    | ((with_reducible show wpList _ _ _ (⟨_, .store _ _ _, _, _, _, _⟩ :: _) _ _); (first | refine H.xs ?_ | refine H.xt ?_); (intro w H; simp only [Act.put]))
    | (go_at_call 191; ((with_reducible refine (cL _).mono ?_); rintro e w ⟨rfl, hb⟩; replace H := H.call hb; clear hb))
    )
  go_loopw [3] (fun i wr => ∃ (k : Nat) (e : Int), e + 1 = k ∧ k ≤ 6 ∧ i = .int .i64 e ∧ Hid (a < 2 ^ (64 * k)) ∧ Own w0 wr [(ga, 60, limbs a)]) (fun i _ => (intOf i + 1).toNat)
  case atStart => exact ⟨6, 5, by omega, by omega, rfl, Lib.hid (by rw [← top6.eq_1]; exact HA.out), H⟩
  case round =>
    clear H
    obtain ⟨k, e, hke, hk, rfl, hT, H⟩ := hrel
    by_cases h0 : k = 0
    · subst h0
      obtain rfl : e = -1 := by omega
      have hz : a = 0 := by have := hT.out; rw [Nat.mul_zero, Nat.pow_zero] at this; omega
      subst hz
      go_wp2_with (first
    | ((with_reducible show wpList _ _ _ (⟨some 1, .box _ _, _, _, _, _⟩ :: _) _ _); refine H.xb ?_; (intro ga w H; simp only [Act.put, q1_, q2_, q3_]))
    | ((with_reducible show wpList _ _ _ (⟨_, .box _ _, _, _, _, _⟩ :: _) _ _); refine H.xb ?_; (intro g w H; simp only [Act.put, q1_, q2_, q3_]))
    | ((with_reducible show wpList _ _ _ (⟨_, .alloc _, _, _, _, _⟩ :: _) _ _); refine H.xa ?_; (intro g w H; simp only [Act.put, q1_, q2_, q3_]))
    | ((with_reducible show wpList _ _ _ (⟨_, .load _ _, _, _, _, _⟩ :: _) _ _); (first | refine H.xl ?_ | refine H.xm ?_); simp only [Act.put, q1_, q2_, q3_])
    | ((with_reducible show wpList _ _ _ (⟨_, .store _ _ _, _, _, _, _⟩ :: _) _ _); (first | refine H.xs ?_ | refine H.xt ?_); (intro w H; simp only [Act.put]))
    | (go_at_call 191; ((with_reducible refine (cL _).mono ?_); rintro e w ⟨rfl, hb⟩; replace H := H.call hb; clear hb))
    )
      go_ret
      exact ⟨rfl, H.below⟩
    · obtain ⟨m, rfl⟩ : ∃ m, k = m + 1 := ⟨k - 1, by omega⟩
      obtain rfl : e = (m : Int) := by omega
      have hm : m < 6 := by omega
      have hmi : (m : Int) < 6 := by omega
      have hm0 : (0 : Int) ≤ (m : Int) := by omega
      have G : (limbs a)[m]? = some (.int .u64 (limb a m)) := limbs_get a m hm
      by_cases hz : limbN a m = 0
      · have h1 := Lib.hid (top_zero a m hT.out hz)
        have z : limb a m = 0 := by unfold limb; rw [hz]; rfl
        rw [z] at G
        clear hT hz h0
        go_wp2_with (first
    | ((with_reducible show wpList _ _ _ (⟨some 1, .box _ _, _, _, _, _⟩ :: _) _ _); refine H.xb ?_; (intro ga w H; simp only [Act.put, q1_, q2_, q3_]))
    | ((with_reducible show wpList _ _ _ (⟨_, .load 25 _, _, _, _, _⟩ :: _) _ _); refine H.xm ?_ (hv := by first | with_reducible exact G); simp only [Act.put, q1_, q2_, q3_])
    | ((with_reducible show wpList _ _ _ (⟨_, .box _ _, _, _, _, _⟩ :: _) _ _); refine H.xb ?_; (intro g w H; simp only [Act.put, q1_, q2_, q3_]))
    | ((with_reducible show wpList _ _ _ (⟨_, .alloc _, _, _, _, _⟩ :: _) _ _); refine H.xa ?_; (intro g w H; simp only [Act.put, q1_, q2_, q3_]))
    | ((with_reducible show wpList _ _ _ (⟨_, .load _ _, _, _, _, _⟩ :: _) _ _); (first | refine H.xl ?_ | refine H.xm ?_); simp only [Act.put, q1_, q2_, q3_])
    | ((with_reducible show wpList _ _ _ (⟨_, .store _ _ _, _, _, _, _⟩ :: _) _ _); (first | refine H.xs ?_ | refine H.xt ?_); (intro w H; simp only [Act.put]))
    | (go_at_call 191; ((with_reducible refine (cL _).mono ?_); rintro e w ⟨rfl, hb⟩; replace H := H.call hb; clear hb))
    )
        all_goals
          go_roundw
          case rel => exact ⟨m, (m : Int) - 1, by omega, by omega, by go_num, h1, H⟩
          case measure => simp [intOf] <;> omega
      · have h1 := Lib.hid (lenN_top a m hT.out hz)
        have cL := fun w => r1Len_any (limbN a m) w (limbN_lt a m)
        have hl : ((limbN a m : Nat) : Int) = limb a m := rfl
        rw [hl] at cL
        have z : (limb a m != 0) = true := by unfold limb; simpa using hz
        have hb : lenN (limbN a m) ≤ 64 := (lenN_le _ _).2 (by rw [← B64]; exact limbN_lt a m)
        generalize lenN (limbN a m) = l at *
        clear hT hz h0 hl
        go_wp2_with (first
    | ((with_reducible show wpList _ _ _ (⟨some 1, .box _ _, _, _, _, _⟩ :: _) _ _); refine H.xb ?_; (intro ga w H; simp only [Act.put, q1_, q2_, q3_]))
    | ((with_reducible show wpList _ _ _ (⟨_, .load 25 _, _, _, _, _⟩ :: _) _ _); refine H.xm ?_ (hv := by first | with_reducible exact G); simp only [Act.put, q1_, q2_, q3_])
    | ((with_reducible show wpList _ _ _ (⟨_, .box _ _, _, _, _, _⟩ :: _) _ _); refine H.xb ?_; (intro g w H; simp only [Act.put, q1_, q2_, q3_]))
    | ((with_reducible show wpList _ _ _ (⟨_, .alloc _, _, _, _, _⟩ :: _) _ _); refine H.xa ?_; (intro g w H; simp only [Act.put, q1_, q2_, q3_]))
    | ((with_reducible show wpList _ _ _ (⟨_, .load _ _, _, _, _, _⟩ :: _) _ _); (first | refine H.xl ?_ | refine H.xm ?_); simp only [Act.put, q1_, q2_, q3_])
    | ((with_reducible show wpList _ _ _ (⟨_, .store _ _ _, _, _, _, _⟩ :: _) _ _); (first | refine H.xs ?_ | refine H.xt ?_); (intro w H; simp only [Act.put]))
    | (go_at_call 191; ((with_reducible refine (cL _).mono ?_); rintro e w ⟨rfl, hb⟩; replace H := H.call hb; clear hb))
    )
        go_ret
        exact ⟨by rw [h1.out]; first | rfl | go_num, H.below⟩
open Go.RowKit
section
variable {P : Program} {w : World} {op : Oper} {a : Act} {Q : Exit → Act → World → Prop} {ops : Array Oper} {rest : List Oper}
theorem run_build {t : TypeId} {n : Nat} {z : Array Value} {fs : Array Field} {places : Array (Nat × Nat)} (R : IsRow P t n z) (hu : P.underlying t = some (.struct fs))
    (hp : (fs.mapM fun f => do pure (f.offset, ← sizeOf f.type) : Sem (Array (Nat × Nat))).run P w = .ok places w) (ps : Array (Nat × Value)) (cs : Array Value) (hf : Instr.fill (places[·]?) z ps.toList = some cs) :
    (Instr.build t ps).run P w = .ok (.agg cs) w := by
  have hz := run_zeroValue R.zero w
  unfold Instr.build
  simp only [Sem.run_bind, hz, Result.andThen_ok, run_underlying hu, hp, Value.cells, hf]
  rfl
theorem fill_step (place : Nat → Option (Nat × Nat)) (cells : Array Value) (i off size : Nat) (v : Value) (rest : List (Nat × Value)) (hp : place i = some (off, size)) (h1 : v.cells.size = size) (h2 : off + size ≤ cells.size) :
    Instr.fill place cells ((i, v) :: rest) = Instr.fill place (setRow cells off v.cells.toList) rest := by
  rw [Instr.fill]
  simp only [hp]
  rw [if_neg (by simp [h1]; omega), foldl_cells]
theorem wp_bld {t : TypeId} {ps : Array (Nat × Operand)} (hw : Region.wanted op (yielded ops a.tmps) = true) (ho : op.op = .build t ps) {vs : Array (Nat × Value)} (hvs : (ps.map fun (i, x) => (i, a.eval x)) = vs) {v : Value}
    (hv : ∀ w, (Instr.build t vs).run P w = .ok v w) (h : wpList P ops Q rest (a.put op.dst v) w) : wpList P ops Q (op :: rest) a w := by
  refine wp_wanted hw fun K hK => ?_
  subst hvs
  have hk := hK _ _ h
  unfold Oper.wp execOp
  simp only [ho, Sem.run_bind, hv, Result.andThen_ok]
  exact hk
theorem wp_bld2 {t : TypeId} {i j : Nat} {x y : Operand} (hw : Region.wanted op (yielded ops a.tmps) = true) (ho : op.op = .build t #[(i, x), (j, y)]) {u1 u2 : Value} (h1 : a.eval x = u1) (h2 : a.eval y = u2) {v : Value}
    (hv : ∀ w, (Instr.build t #[(i, u1), (j, u2)]).run P w = .ok v w) (h : wpList P ops Q rest (a.put op.dst v) w) : wpList P ops Q (op :: rest) a w :=
  wp_bld hw ho (by simp [h1, h2]) hv h
theorem wp_bld4 {t : TypeId} {i j k l : Nat} {x y z q : Operand} (hw : Region.wanted op (yielded ops a.tmps) = true) (ho : op.op = .build t #[(i, x), (j, y), (k, z), (l, q)]) {u1 u2 u3 u4 : Value} (h1 : a.eval x = u1) (h2 : a.eval y = u2) (h3 : a.eval z = u3) (h4 : a.eval q = u4) {v : Value}
    (hv : ∀ w, (Instr.build t #[(i, u1), (j, u2), (k, u3), (l, u4)]).run P w = .ok v w) (h : wpList P ops Q rest (a.put op.dst v) w) : wpList P ops Q (op :: rest) a w :=
  wp_bld hw ho (by simp [h1, h2, h3, h4]) hv h
end
def roughAt : Array (Nat × Nat) := #[(0, 1), (1, 6), (7, 1), (8, 1)]
theorem rough_0 (neg : Bool) (s : Nat) (e : Int) (mo neg' : Bool) (rest : List (Nat × Value)) : Instr.fill (roughAt[·]?) (rough neg s e mo) ((0, .bool neg') :: rest) = Instr.fill (roughAt[·]?) (rough neg' s e mo) rest := fill_step _ _ 0 0 1 _ _ rfl rfl (show 0 + 1 ≤ 9 by decide)
theorem rough_1 (neg : Bool) (s : Nat) (e : Int) (mo : Bool) (s' : Nat) (rest : List (Nat × Value)) : Instr.fill (roughAt[·]?) (rough neg s e mo) ((1, W s') :: rest) = Instr.fill (roughAt[·]?) (rough neg s' e mo) rest := fill_step _ _ 1 1 6 _ _ rfl rfl (show 1 + 6 ≤ 9 by decide)
theorem places_rough (w : World) : ∃ fs, Tryz.prog.underlying 83 = some (.struct fs) ∧ (fs.mapM fun f => do pure (f.offset, ← sizeOf f.type) : Sem (Array (Nat × Nat))).run Tryz.prog w = .ok roughAt w := by
  refine ⟨_, Tryz.underlying83, ?_⟩
  unfold roughAt
  go_simp
theorem run_rough (w : World) (ps : Array (Nat × Value)) (cs : Array Value) (hf : Instr.fill (roughAt[·]?) (rough false 0 0 false) ps.toList = some cs) : (Instr.build 83 ps).run Tryz.prog w = .ok (.agg cs) w := by
  obtain ⟨fs, hu, hp⟩ := places_rough w
  exact run_build rR hu hp ps cs hf
theorem rough_ns (neg : Bool) (s : Nat) (w : World) : (Instr.build 83 #[(0, .bool neg), (1, W s)]).run Tryz.prog w = .ok (RV neg s 0 false) w :=
  run_rough w _ _ (by show Instr.fill _ _ [_, _] = _; rw [rough_0, rough_1]; rfl)
open Go.RowKit
theorem set_pwR (a b : Nat) (x : Int) (d c s : Nat) (y : Int) (f : Nat) : setRow (parts a b x d) 0 (parts c s y f).toList = parts c s y f := set_all _ _ rfl
end Go.Proofs.YtgmhmpflmgfcdaaGreatDoor
