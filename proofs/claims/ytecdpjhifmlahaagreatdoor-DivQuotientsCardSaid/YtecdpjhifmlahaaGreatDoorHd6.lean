/- Part 6 of what is proved: R2m, R7, R8f, R8, Wadd, R1, R2n, Bld, R8u, R8v. -/
import Derived.Deep.RegionWith
import Derived.Deep.RegionHeld3
import Derived.Deep.QuietTactic
import Derived.BigQuiet
import Derived.StillTailTactics
import Derived.Outline
import Derived.Test.YtecdpjhifmlahaaGreatDoorHd1
import Derived.Test.YtecdpjhifmlahaaGreatDoorHd2
import Derived.Test.YtecdpjhifmlahaaGreatDoorHd3
import Derived.Test.YtecdpjhifmlahaaGreatDoorHd4
import Derived.Test.YtecdpjhifmlahaaGreatDoorHd5
set_option linter.unusedSimpArgs false
set_option linter.unusedVariables false
set_option linter.unnecessarySimpa false
set_option maxRecDepth 100000
set_option maxHeartbeats 1600000
namespace Go.Proofs.YtecdpjhifmlahaaGreatDoor
open Go.RowKit
theorem set_fill_and (a b k : Nat) : setRow (fillTo (limbs a) (fun i => .int .u64 (limb (a &&& b) i)) k) k (#[.int .u64 (Go.bits .and .u64 (limb a k) (limb b k))] : Array Value).toList = fillTo (limbs a) (fun i => .int .u64 (limb (a &&& b) i)) (k + 1) := by
  rw [limb_and]; rfl
set_option maxHeartbeats 3200000 in
theorem r2Mask_any (x : Int) (w0 : World) :
    Calls Tryz.prog 182 #[.int .i64 x] w0 fun e w' => e = .returned (W (2 ^ clip x - 1)) ∧ Below w0.heap.size w0 w' := by
  have H := Own.start w0
  have cC := fun w => r2Count_any x w
  obtain ⟨n, hn⟩ : ∃ n, clip x = n := ⟨_, rfl⟩
  have hn4 : n ≤ 384 := by unfold clip at hn; omega
  rw [hn] at cC ⊢
  clear hn
  go_enter Tryz.func182, Tryz.ntmps182
  go_wp2_with (first
    | ((with_reducible show wpList _ _ _ (⟨some 3, .alloc 63, _, _, _, _⟩ :: _) _ _); refine H.xa ?_; (intro gb w H; simp only [Act.put, q1_, q2_, q3_]))
    | ((with_reducible show wpList _ _ _ (⟨some 2, .alloc 63, _, _, _, _⟩ :: _) _ _); refine H.xa ?_; (intro gr w H; simp only [Act.put, q1_, q2_, q3_]))
    | ((with_reducible show wpList _ _ _ (⟨_, .box _ _, _, _, _, _⟩ :: _) _ _); refine H.xb ?_; (intro g w H; simp only [Act.put, q1_, q2_, q3_]))
    | ((with_reducible show wpList _ _ _ (⟨_, .alloc _, _, _, _, _⟩ :: _) _ _); refine H.xa ?_; (intro g w H; simp only [Act.put, q1_, q2_, q3_]))
    | ((with_reducible show wpList _ _ _ (⟨_, .load _ _, _, _, _, _⟩ :: _) _ _); (first | refine H.xl ?_ | refine H.xm ?_); simp only [Act.put, q1_, q2_, q3_])
    | ((with_reducible show wpList _ _ _ (⟨_, .store _ _ _, _, _, _, _⟩ :: _) _ _); (first | refine H.xs ?_ | refine H.xt ?_); (intro w H; simp only [Act.put]))
    | (go_at_call 221; ((with_reducible refine (cC _).mono ?_); rintro e w ⟨rfl, hb⟩; replace H := H.call hb; clear hb))
    )
  go_loopw [4] (fun i wr => ∃ (k : Nat), k ≤ n ∧ i = .int .i64 k ∧ Own w0 wr [(gb, 63, limbs (2 ^ k - 1)), (gr, 63, limbs 0)]) (fun i _ => n - (intOf i).toNat)
  case atStart => exact ⟨0, by omega, rfl, H⟩
  case round =>
    clear H
    obtain ⟨k, hk, rfl, H⟩ := hrel
    by_cases hlt : k < n
    · have hd : decide ((k : Int) < (n : Int)) = true := by simp; omega
      have h1 := Lib.hid (mask_step k).1
      have h2 := Lib.hid (mask_step k).2
      obtain ⟨qi, hqi⟩ : ∃ qi : Nat, (k : Int) / 64 = qi := ⟨k / 64, by omega⟩
      obtain ⟨sh, hsh⟩ : ∃ sh : Nat, (k : Int) % 64 = sh := ⟨k % 64, by omega⟩
      have HM := Lib.hid (show k = 64 * qi + sh by omega)
      have hs64 : sh < 64 := by omega
      have hq6 : qi < 6 := by omega
      have hq6i : (qi : Int) < 6 := by omega
      have t1 : IntKind.i64.wrap ((k : Int).tdiv 64) = (qi : Int) := by rw [Int.tdiv_eq_ediv_of_nonneg (by omega), hqi]; exact IntWalk.i64_in _ (by omega)
      have t2 : (k : Int).tmod 64 = (sh : Int) := by rw [Int.tmod_eq_emod_of_nonneg (by omega), hsh]
      have t3 : IntKind.u64.wrap (sh : Int) = (sh : Int) := by rw [IntKind.wrap_u64]; omega
      have t4 : min sh 64 = sh := by omega
      obtain ⟨V, hV⟩ : ∃ V, 2 ^ k - 1 = V := ⟨_, rfl⟩
      rw [hV] at H h1 h2
      have G : (limbs V)[qi]? = some (.int .u64 (limb V qi)) := limbs_get V qi hq6
      clear hV cC
      go_wp2_with (first
    | ((with_reducible show wpList _ _ _ (⟨some 3, .alloc 63, _, _, _, _⟩ :: _) _ _); refine H.xa ?_; (intro gb w H; simp only [Act.put, q1_, q2_, q3_]))
    | ((with_reducible show wpList _ _ _ (⟨some 2, .alloc 63, _, _, _, _⟩ :: _) _ _); refine H.xa ?_; (intro gr w H; simp only [Act.put, q1_, q2_, q3_]))
    | ((with_reducible show wpList _ _ _ (⟨_, .load 25 _, _, _, _, _⟩ :: _) _ _); refine H.xm ?_ (hv := by first | with_reducible exact G); simp only [Act.put, q1_, q2_, q3_])
    | ((with_reducible show wpList _ _ _ (⟨_, .store 25 _ _, _, _, _, _⟩ :: _) _ _); refine H.xt ?_ (hv := set_bit_at _ k _ _ h2.out HM.out hs64 hq6); (intro w H; simp only [Act.put]))
    | ((with_reducible show wpList _ _ _ (⟨_, .box _ _, _, _, _, _⟩ :: _) _ _); refine H.xb ?_; (intro g w H; simp only [Act.put, q1_, q2_, q3_]))
    | ((with_reducible show wpList _ _ _ (⟨_, .alloc _, _, _, _, _⟩ :: _) _ _); refine H.xa ?_; (intro g w H; simp only [Act.put, q1_, q2_, q3_]))
    | ((with_reducible show wpList _ _ _ (⟨_, .load _ _, _, _, _, _⟩ :: _) _ _); (first | refine H.xl ?_ | refine H.xm ?_); simp only [Act.put, q1_, q2_, q3_])
    | ((with_reducible show wpList _ _ _ (⟨_, .store _ _ _, _, _, _, _⟩ :: _) _ _); (first | refine H.xs ?_ | refine H.xt ?_); (intro w H; simp only [Act.put]))
    | (go_at_call 221; ((with_reducible refine (cC _).mono ?_); rintro e w ⟨rfl, hb⟩; replace H := H.call hb; clear hb))
    )
      all_goals
        go_roundw
        case rel => exact ⟨k + 1, by omega, by go_num, by rw [h1.out]; exact H⟩
        case measure => simp [intOf] <;> omega
    · obtain rfl : k = n := by omega
      have hd : decide ((k : Int) < (k : Int)) = false := by simp
      clear hlt hk cC
      go_wp2_with (first
    | ((with_reducible show wpList _ _ _ (⟨some 3, .alloc 63, _, _, _, _⟩ :: _) _ _); refine H.xa ?_; (intro gb w H; simp only [Act.put, q1_, q2_, q3_]))
    | ((with_reducible show wpList _ _ _ (⟨some 2, .alloc 63, _, _, _, _⟩ :: _) _ _); refine H.xa ?_; (intro gr w H; simp only [Act.put, q1_, q2_, q3_]))
    | ((with_reducible show wpList _ _ _ (⟨_, .box _ _, _, _, _, _⟩ :: _) _ _); refine H.xb ?_; (intro g w H; simp only [Act.put, q1_, q2_, q3_]))
    | ((with_reducible show wpList _ _ _ (⟨_, .alloc _, _, _, _, _⟩ :: _) _ _); refine H.xa ?_; (intro g w H; simp only [Act.put, q1_, q2_, q3_]))
    | ((with_reducible show wpList _ _ _ (⟨_, .load _ _, _, _, _, _⟩ :: _) _ _); (first | refine H.xl ?_ | refine H.xm ?_); simp only [Act.put, q1_, q2_, q3_])
    | ((with_reducible show wpList _ _ _ (⟨_, .store _ _ _, _, _, _, _⟩ :: _) _ _); (first | refine H.xs ?_ | refine H.xt ?_); (intro w H; simp only [Act.put]))
    | (go_at_call 221; ((with_reducible refine (cC _).mono ?_); rintro e w ⟨rfl, hb⟩; replace H := H.call hb; clear hb))
    )
      refine bodyPost_ret (results_c rfl rfl (H.res rW v3_ v4_ (by rfl))) rfl ⟨?_, H.below⟩
      rfl
set_option maxHeartbeats 3200000 in
theorem r2And_any (a b : Nat) (w0 : World) :
    Calls Tryz.prog 181 #[W a, W b] w0 fun e w' => e = .returned (W (a &&& b)) ∧ Below w0.heap.size w0 w' := by
  have H := Own.start w0
  go_enter Tryz.func181, Tryz.ntmps181
  go_wp2_with (first
    | ((with_reducible show wpList _ _ _ (⟨some 2, .box _ _, _, _, _, _⟩ :: _) _ _); refine H.xb ?_; (intro ga w H; simp only [Act.put, q1_, q2_, q3_]))
    | ((with_reducible show wpList _ _ _ (⟨some 3, .box _ _, _, _, _, _⟩ :: _) _ _); refine H.xb ?_; (intro gb w H; simp only [Act.put, q1_, q2_, q3_]))
    | ((with_reducible show wpList _ _ _ (⟨some 4, .alloc 63, _, _, _, _⟩ :: _) _ _); refine H.xa ?_; (intro gr w H; simp only [Act.put, q1_, q2_, q3_]))
    | ((with_reducible show wpList _ _ _ (⟨_, .box _ _, _, _, _, _⟩ :: _) _ _); refine H.xb ?_; (intro g w H; simp only [Act.put, q1_, q2_, q3_]))
    | ((with_reducible show wpList _ _ _ (⟨_, .alloc _, _, _, _, _⟩ :: _) _ _); refine H.xa ?_; (intro g w H; simp only [Act.put, q1_, q2_, q3_]))
    | ((with_reducible show wpList _ _ _ (⟨_, .load _ _, _, _, _, _⟩ :: _) _ _); (first | refine H.xl ?_ | refine H.xm ?_); simp only [Act.put, q1_, q2_, q3_])
    | ((with_reducible show wpList _ _ _ (⟨_, .store _ _ _, _, _, _, _⟩ :: _) _ _); (first | refine H.xs ?_ | refine H.xt ?_); (intro w H; simp only [Act.put]))
    )
  go_loopw [5] (fun i wr => ∃ (k : Nat), k ≤ 6 ∧ i = .int .i64 k ∧ Own w0 wr [(gr, 63, limbs 0), (gb, 63, limbs b), (ga, 63, fillTo (limbs a) (fun i => .int .u64 (limb (a &&& b) i)) k)]) (fun i _ => 6 - (intOf i).toNat)
  case atStart => exact ⟨0, by omega, rfl, H⟩
  case round =>
    clear H
    obtain ⟨k, hk, rfl, H⟩ := hrel
    by_cases hlt : k < 6
    · have hd : decide ((k : Int) < 6) = true := by simp; omega
      have G1 : (fillTo (limbs a) (fun i => .int .u64 (limb (a &&& b) i)) k)[k]? = some (.int .u64 (limb a k)) := (fillTo_hi _ _ _ _ (Nat.le_refl _)).trans (limbs_get a k hlt)
      have G2 : (limbs b)[k]? = some (.int .u64 (limb b k)) := limbs_get b k hlt
      have hlti : (k : Int) < 6 := by omega
      go_wp2_with (first
    | ((with_reducible show wpList _ _ _ (⟨some 2, .box _ _, _, _, _, _⟩ :: _) _ _); refine H.xb ?_; (intro ga w H; simp only [Act.put, q1_, q2_, q3_]))
    | ((with_reducible show wpList _ _ _ (⟨some 3, .box _ _, _, _, _, _⟩ :: _) _ _); refine H.xb ?_; (intro gb w H; simp only [Act.put, q1_, q2_, q3_]))
    | ((with_reducible show wpList _ _ _ (⟨some 4, .alloc 63, _, _, _, _⟩ :: _) _ _); refine H.xa ?_; (intro gr w H; simp only [Act.put, q1_, q2_, q3_]))
    | ((with_reducible show wpList _ _ _ (⟨_, .load 25 _, _, _, _, _⟩ :: _) _ _); refine H.xm ?_ (hv := by first | with_reducible exact G1 | with_reducible exact G2); simp only [Act.put, q1_, q2_, q3_])
    | ((with_reducible show wpList _ _ _ (⟨_, .store 25 _ _, _, _, _, _⟩ :: _) _ _); refine H.xt ?_ (hv := set_fill_and _ _ _); (intro w H; simp only [Act.put]))
    | ((with_reducible show wpList _ _ _ (⟨_, .box _ _, _, _, _, _⟩ :: _) _ _); refine H.xb ?_; (intro g w H; simp only [Act.put, q1_, q2_, q3_]))
    | ((with_reducible show wpList _ _ _ (⟨_, .alloc _, _, _, _, _⟩ :: _) _ _); refine H.xa ?_; (intro g w H; simp only [Act.put, q1_, q2_, q3_]))
    | ((with_reducible show wpList _ _ _ (⟨_, .load _ _, _, _, _, _⟩ :: _) _ _); (first | refine H.xl ?_ | refine H.xm ?_); simp only [Act.put, q1_, q2_, q3_])
    | ((with_reducible show wpList _ _ _ (⟨_, .store _ _ _, _, _, _, _⟩ :: _) _ _); (first | refine H.xs ?_ | refine H.xt ?_); (intro w H; simp only [Act.put]))
    | ((with_reducible show Code.wp _ (.region 4 _ true) _ _ _); refine H.heldSub rfl (List.Sublist.cons_cons _ (List.Sublist.cons_cons _ (List.Sublist.cons _ (List.Sublist.refl _)))) ?_; intro H; refine H.zr 0 ?_; (try simp only [Act.put, q1_, q2_, q3_]); (try simp only [q4_, q5_, q6_]); refine H.zr 1 ?_; (try simp only [Act.put, q1_, q2_, q3_]); (try simp only [q4_, q5_, q6_]); refine H.zr 2 ?_; (try simp only [Act.put, q1_, q2_, q3_]); (try simp only [q4_, q5_, q6_]); refine H.zr 4 ?_; (try simp only [Act.put, q1_, q2_, q3_]); (try simp only [q4_, q5_, q6_]); refine H.zr 5 ?_; (try simp only [Act.put, q1_, q2_, q3_]); (try simp only [q4_, q5_, q6_]); (first | refine H.zm 6 ?_ (hv := by first | with_reducible exact G1 | with_reducible exact G2) | refine H.zl 6 ?_ | refine H.zm 6 ?_); (try simp only [Act.put, q1_, q2_, q3_]); (try simp only [q4_, q5_, q6_]); refine held1 3 ?_; (first | refine H.ym ?_ (hv := by first | with_reducible exact G1 | with_reducible exact G2) | refine H.yl ?_ | refine H.ym ?_); refine H.nx ?_; (try simp only [Act.put, q1_, q2_, q3_]); (try simp only [q4_, q5_, q6_]); refine H.zr 7 ?_; (try simp only [Act.put, q1_, q2_, q3_]); (try simp only [q4_, q5_, q6_]); refine H.zr 8 ?_; (try simp only [Act.put, q1_, q2_, q3_]); (try simp only [q4_, q5_, q6_]); refine held1 9 ?_; (first | refine H.yt ?_ (hv := set_fill_and _ _ _) | refine H.ys ?_ | refine H.yt ?_); intro w H; refine H.nx ?_; (try simp only [Act.put]); refine wpAnyH_done (by kernel_rfl) ?_ _)
    )
      all_goals
        go_roundw
        case rel => exact ⟨k + 1, by omega, by go_num, H⟩
        case measure => simp [intOf] <;> omega
    · obtain rfl : k = 6 := by omega
      rw [fillTo_all (limbs a) _ (a &&& b) (limbs_size a) (fun _ _ => rfl)] at H
      clear hlt hk
      go_wp2_with (first
    | ((with_reducible show wpList _ _ _ (⟨some 2, .box _ _, _, _, _, _⟩ :: _) _ _); refine H.xb ?_; (intro ga w H; simp only [Act.put, q1_, q2_, q3_]))
    | ((with_reducible show wpList _ _ _ (⟨some 3, .box _ _, _, _, _, _⟩ :: _) _ _); refine H.xb ?_; (intro gb w H; simp only [Act.put, q1_, q2_, q3_]))
    | ((with_reducible show wpList _ _ _ (⟨some 4, .alloc 63, _, _, _, _⟩ :: _) _ _); refine H.xa ?_; (intro gr w H; simp only [Act.put, q1_, q2_, q3_]))
    | ((with_reducible show wpList _ _ _ (⟨_, .box _ _, _, _, _, _⟩ :: _) _ _); refine H.xb ?_; (intro g w H; simp only [Act.put, q1_, q2_, q3_]))
    | ((with_reducible show wpList _ _ _ (⟨_, .alloc _, _, _, _, _⟩ :: _) _ _); refine H.xa ?_; (intro g w H; simp only [Act.put, q1_, q2_, q3_]))
    | ((with_reducible show wpList _ _ _ (⟨_, .load _ _, _, _, _, _⟩ :: _) _ _); (first | refine H.xl ?_ | refine H.xm ?_); simp only [Act.put, q1_, q2_, q3_])
    | ((with_reducible show wpList _ _ _ (⟨_, .store _ _ _, _, _, _, _⟩ :: _) _ _); (first | refine H.xs ?_ | refine H.xt ?_); (intro w H; simp only [Act.put]))
    )
      refine bodyPost_ret (results_c rfl rfl (H.res rW v3_ v4_ (by rfl))) rfl ⟨?_, H.below⟩
      rfl
set_option maxHeartbeats 3200000 in
theorem r2Right_any (a : Nat) (x : Int) (w0 : World) (ha : a < top6) :
    Calls Tryz.prog 203 #[W a, .int .i64 x] w0 fun e w' => e = .returned (.tuple #[W (a / 2 ^ clip x), .bool (lostR a (clip x))]) ∧ Below w0.heap.size w0 w' := by
  have H := Own.start w0
  have cC := fun w => r2Count_any x w
  obtain ⟨n, hn⟩ : ∃ n, clip x = n := ⟨_, rfl⟩
  have hn4 : n ≤ 384 := by unfold clip at hn; omega
  rw [hn] at cC ⊢
  clear hn
  have HA := Lib.hid ha
  clear ha
  go_enter Tryz.func203, Tryz.ntmps203
  go_wp2_with (first
    | ((with_reducible show wpList _ _ _ (⟨some 2, .box _ _, _, _, _, _⟩ :: _) _ _); refine H.xb ?_; (intro ga w H; simp only [Act.put, q1_, q2_, q3_]))
    | ((with_reducible show wpList _ _ _ (⟨some 4, .alloc 63, _, _, _, _⟩ :: _) _ _); refine H.xa ?_; (intro gr w H; simp only [Act.put, q1_, q2_, q3_]))
    | ((with_reducible show wpList _ _ _ (⟨some 6, .alloc 63, _, _, _, _⟩ :: _) _ _); refine H.xa ?_; (intro gb w H; simp only [Act.put, q1_, q2_, q3_]))
    | ((with_reducible show wpList _ _ _ (⟨_, .box _ _, _, _, _, _⟩ :: _) _ _); refine H.xb ?_; (intro g w H; simp only [Act.put, q1_, q2_, q3_]))
    | ((with_reducible show wpList _ _ _ (⟨_, .alloc _, _, _, _, _⟩ :: _) _ _); refine H.xa ?_; (intro g w H; simp only [Act.put, q1_, q2_, q3_]))
    | ((with_reducible show wpList _ _ _ (⟨_, .load _ _, _, _, _, _⟩ :: _) _ _); (first | refine H.xl ?_ | refine H.xm ?_); simp only [Act.put, q1_, q2_, q3_])
    | ((with_reducible show wpList _ _ _ (⟨_, .store _ _ _, _, _, _, _⟩ :: _) _ _); (first | refine H.xs ?_ | refine H.xt ?_); (intro w H; simp only [Act.put]))
    | (go_at_call 221; ((with_reducible refine (cC _).mono ?_); rintro e w ⟨rfl, hb⟩; replace H := H.call hb; clear hb))
    | (go_at_call 202; ((with_reducible refine (cB _).mono ?_); rintro e w ⟨rfl, hb⟩; replace H := H.call hb; clear hb))
    )
  go_loopw [7, 8] (fun l i wr => ∃ (k : Nat), k ≤ 384 ∧ i = .int .i64 k ∧ l = .bool (lostRi a n k) ∧ Own w0 wr [(gb, 63, limbs (a % 2 ^ k / 2 ^ n)), (gr, 63, limbs 0), (ga, 63, limbs a)]) (fun _ i _ => 384 - (intOf i).toNat)
  case atStart => exact ⟨0, by omega, rfl, by rw [lostRi_zero], by rw [Nat.pow_zero, Nat.mod_one, Nat.zero_div]; exact H⟩
  case round =>
    clear H
    obtain ⟨k, hk, rfl, rfl, H⟩ := hrel
    by_cases hlt : k < 384
    · have hd : decide ((k : Int) < 384) = true := by simp; omega
      have hlti : (k : Int) < 384 := by omega
      have cB := fun w => r2Bit_any a k w hlt
      cases hb : a.testBit k
      · rw [hb] at cB
        have h1 := Lib.hid (lostRi_f a n k hb)
        have h2 := Lib.hid (bit_f a k hb)
        clear hb cC
        go_wp2_with (first
    | ((with_reducible show wpList _ _ _ (⟨some 2, .box _ _, _, _, _, _⟩ :: _) _ _); refine H.xb ?_; (intro ga w H; simp only [Act.put, q1_, q2_, q3_]))
    | ((with_reducible show wpList _ _ _ (⟨some 4, .alloc 63, _, _, _, _⟩ :: _) _ _); refine H.xa ?_; (intro gr w H; simp only [Act.put, q1_, q2_, q3_]))
    | ((with_reducible show wpList _ _ _ (⟨some 6, .alloc 63, _, _, _, _⟩ :: _) _ _); refine H.xa ?_; (intro gb w H; simp only [Act.put, q1_, q2_, q3_]))
    | ((with_reducible show wpList _ _ _ (⟨_, .box _ _, _, _, _, _⟩ :: _) _ _); refine H.xb ?_; (intro g w H; simp only [Act.put, q1_, q2_, q3_]))
    | ((with_reducible show wpList _ _ _ (⟨_, .alloc _, _, _, _, _⟩ :: _) _ _); refine H.xa ?_; (intro g w H; simp only [Act.put, q1_, q2_, q3_]))
    | ((with_reducible show wpList _ _ _ (⟨_, .load _ _, _, _, _, _⟩ :: _) _ _); (first | refine H.xl ?_ | refine H.xm ?_); simp only [Act.put, q1_, q2_, q3_])
    | ((with_reducible show wpList _ _ _ (⟨_, .store _ _ _, _, _, _, _⟩ :: _) _ _); (first | refine H.xs ?_ | refine H.xt ?_); (intro w H; simp only [Act.put]))
    | (go_at_call 221; ((with_reducible refine (cC _).mono ?_); rintro e w ⟨rfl, hb⟩; replace H := H.call hb; clear hb))
    | (go_at_call 202; ((with_reducible refine (cB _).mono ?_); rintro e w ⟨rfl, hb⟩; replace H := H.call hb; clear hb))
    )
        all_goals
          go_roundw
          case rel => exact ⟨k + 1, by omega, by go_num, by rw [h1.out], by rw [h2.out]; exact H⟩
          case measure => simp [intOf] <;> omega
      · rw [hb] at cB
        by_cases hnk : n ≤ k
        · have h1 := Lib.hid (lostRi_ge a n k hnk)
          have h2 := Lib.hid (right_t a n k hb hnk).1
          have h3 := Lib.hid (right_t a n k hb hnk).2
          obtain ⟨j, hj⟩ : ∃ j, k - n = j := ⟨_, rfl⟩
          have e0 : (k : Int) - (n : Int) = (j : Int) := by omega
          have e1 : IntKind.i64.wrap ((k : Int) - (n : Int)) = (j : Int) := by rw [e0]; exact IntWalk.i64_in _ (by omega)
          have hge : (n : Int) ≤ (k : Int) := by omega
          have hdg : decide ((n : Int) ≤ (k : Int)) = true := by simp; omega
          obtain ⟨qi, hqi⟩ : ∃ qi : Nat, (j : Int) / 64 = qi := ⟨j / 64, by omega⟩
          obtain ⟨sh, hsh⟩ : ∃ sh : Nat, (j : Int) % 64 = sh := ⟨j % 64, by omega⟩
          have HM := Lib.hid (show j = 64 * qi + sh by omega)
          have hs64 : sh < 64 := by omega
          have hq6 : qi < 6 := by omega
          have hq6i : (qi : Int) < 6 := by omega
          have t1 : IntKind.i64.wrap ((j : Int).tdiv 64) = (qi : Int) := by rw [Int.tdiv_eq_ediv_of_nonneg (by omega), hqi]; exact IntWalk.i64_in _ (by omega)
          have t2 : (j : Int).tmod 64 = (sh : Int) := by rw [Int.tmod_eq_emod_of_nonneg (by omega), hsh]
          have t3 : IntKind.u64.wrap (sh : Int) = (sh : Int) := by rw [IntKind.wrap_u64]; omega
          have t4 : min sh 64 = sh := by omega
          rw [hj] at h2 h3
          obtain ⟨V, hV⟩ : ∃ V, a % 2 ^ k / 2 ^ n = V := ⟨_, rfl⟩
          rw [hV] at H h2 h3
          have G : (limbs V)[qi]? = some (.int .u64 (limb V qi)) := limbs_get V qi hq6
          clear hV cC hb hj hnk
          go_wp2_with (first
    | ((with_reducible show wpList _ _ _ (⟨some 2, .box _ _, _, _, _, _⟩ :: _) _ _); refine H.xb ?_; (intro ga w H; simp only [Act.put, q1_, q2_, q3_]))
    | ((with_reducible show wpList _ _ _ (⟨some 4, .alloc 63, _, _, _, _⟩ :: _) _ _); refine H.xa ?_; (intro gr w H; simp only [Act.put, q1_, q2_, q3_]))
    | ((with_reducible show wpList _ _ _ (⟨some 6, .alloc 63, _, _, _, _⟩ :: _) _ _); refine H.xa ?_; (intro gb w H; simp only [Act.put, q1_, q2_, q3_]))
    | ((with_reducible show wpList _ _ _ (⟨_, .load 25 _, _, _, _, _⟩ :: _) _ _); refine H.xm ?_ (hv := by first | with_reducible exact G); simp only [Act.put, q1_, q2_, q3_])
    | ((with_reducible show wpList _ _ _ (⟨_, .store 25 _ _, _, _, _, _⟩ :: _) _ _); refine H.xt ?_ (hv := set_bit_at _ _ _ _ h3.out HM.out hs64 hq6); (intro w H; simp only [Act.put]))
    | ((with_reducible show wpList _ _ _ (⟨_, .box _ _, _, _, _, _⟩ :: _) _ _); refine H.xb ?_; (intro g w H; simp only [Act.put, q1_, q2_, q3_]))
    | ((with_reducible show wpList _ _ _ (⟨_, .alloc _, _, _, _, _⟩ :: _) _ _); refine H.xa ?_; (intro g w H; simp only [Act.put, q1_, q2_, q3_]))
    | ((with_reducible show wpList _ _ _ (⟨_, .load _ _, _, _, _, _⟩ :: _) _ _); (first | refine H.xl ?_ | refine H.xm ?_); simp only [Act.put, q1_, q2_, q3_])
    | ((with_reducible show wpList _ _ _ (⟨_, .store _ _ _, _, _, _, _⟩ :: _) _ _); (first | refine H.xs ?_ | refine H.xt ?_); (intro w H; simp only [Act.put]))
    | (go_at_call 221; ((with_reducible refine (cC _).mono ?_); rintro e w ⟨rfl, hb⟩; replace H := H.call hb; clear hb))
    | (go_at_call 202; ((with_reducible refine (cB _).mono ?_); rintro e w ⟨rfl, hb⟩; replace H := H.call hb; clear hb))
    )
          all_goals
            go_roundw
            case rel => exact ⟨k + 1, by omega, by go_num, by rw [h1.out], by rw [h2.out]; exact H⟩
            case measure => simp [intOf] <;> omega
        · have h1 := Lib.hid (lostRi_t a n k hb (by omega))
          have h2 := Lib.hid (show a % 2 ^ (k + 1) / 2 ^ n = a % 2 ^ k / 2 ^ n by rw [right_lo a n (k + 1) (by omega), right_lo a n k (by omega)])
          have hge : (k : Int) < (n : Int) := by omega
          have hdg : decide ((n : Int) ≤ (k : Int)) = false := by simp; omega
          clear cC hb hnk
          go_wp2_with (first
    | ((with_reducible show wpList _ _ _ (⟨some 2, .box _ _, _, _, _, _⟩ :: _) _ _); refine H.xb ?_; (intro ga w H; simp only [Act.put, q1_, q2_, q3_]))
    | ((with_reducible show wpList _ _ _ (⟨some 4, .alloc 63, _, _, _, _⟩ :: _) _ _); refine H.xa ?_; (intro gr w H; simp only [Act.put, q1_, q2_, q3_]))
    | ((with_reducible show wpList _ _ _ (⟨some 6, .alloc 63, _, _, _, _⟩ :: _) _ _); refine H.xa ?_; (intro gb w H; simp only [Act.put, q1_, q2_, q3_]))
    | ((with_reducible show wpList _ _ _ (⟨_, .box _ _, _, _, _, _⟩ :: _) _ _); refine H.xb ?_; (intro g w H; simp only [Act.put, q1_, q2_, q3_]))
    | ((with_reducible show wpList _ _ _ (⟨_, .alloc _, _, _, _, _⟩ :: _) _ _); refine H.xa ?_; (intro g w H; simp only [Act.put, q1_, q2_, q3_]))
    | ((with_reducible show wpList _ _ _ (⟨_, .load _ _, _, _, _, _⟩ :: _) _ _); (first | refine H.xl ?_ | refine H.xm ?_); simp only [Act.put, q1_, q2_, q3_])
    | ((with_reducible show wpList _ _ _ (⟨_, .store _ _ _, _, _, _, _⟩ :: _) _ _); (first | refine H.xs ?_ | refine H.xt ?_); (intro w H; simp only [Act.put]))
    | (go_at_call 221; ((with_reducible refine (cC _).mono ?_); rintro e w ⟨rfl, hb⟩; replace H := H.call hb; clear hb))
    | (go_at_call 202; ((with_reducible refine (cB _).mono ?_); rintro e w ⟨rfl, hb⟩; replace H := H.call hb; clear hb))
    )
          all_goals
            go_roundw
            case rel => exact ⟨k + 1, by omega, by go_num, by rw [h1.out], by rw [h2.out]; exact H⟩
            case measure => simp [intOf] <;> omega
    · have hk384 : k = 384 := by omega
      rw [mod_384 a k hk384 HA.out] at H
      have h1 := Lib.hid (show lostRi a n k = lostR a n by rw [lostRi_all a n k (by omega)]; exact low_any a n HA.out hn4)
      generalize lostRi a n k = l at *
      subst hk384
      clear cC hlt hk
      go_wp2_with (first
    | ((with_reducible show wpList _ _ _ (⟨some 2, .box _ _, _, _, _, _⟩ :: _) _ _); refine H.xb ?_; (intro ga w H; simp only [Act.put, q1_, q2_, q3_]))
    | ((with_reducible show wpList _ _ _ (⟨some 4, .alloc 63, _, _, _, _⟩ :: _) _ _); refine H.xa ?_; (intro gr w H; simp only [Act.put, q1_, q2_, q3_]))
    | ((with_reducible show wpList _ _ _ (⟨some 6, .alloc 63, _, _, _, _⟩ :: _) _ _); refine H.xa ?_; (intro gb w H; simp only [Act.put, q1_, q2_, q3_]))
    | ((with_reducible show wpList _ _ _ (⟨_, .box _ _, _, _, _, _⟩ :: _) _ _); refine H.xb ?_; (intro g w H; simp only [Act.put, q1_, q2_, q3_]))
    | ((with_reducible show wpList _ _ _ (⟨_, .alloc _, _, _, _, _⟩ :: _) _ _); refine H.xa ?_; (intro g w H; simp only [Act.put, q1_, q2_, q3_]))
    | ((with_reducible show wpList _ _ _ (⟨_, .load _ _, _, _, _, _⟩ :: _) _ _); (first | refine H.xl ?_ | refine H.xm ?_); simp only [Act.put, q1_, q2_, q3_])
    | ((with_reducible show wpList _ _ _ (⟨_, .store _ _ _, _, _, _, _⟩ :: _) _ _); (first | refine H.xs ?_ | refine H.xt ?_); (intro w H; simp only [Act.put]))
    | (go_at_call 221; ((with_reducible refine (cC _).mono ?_); rintro e w ⟨rfl, hb⟩; replace H := H.call hb; clear hb))
    | (go_at_call 202; ((with_reducible refine (cB _).mono ?_); rintro e w ⟨rfl, hb⟩; replace H := H.call hb; clear hb))
    )
      refine bodyPost_ret (results_ct rfl rfl (H.res rW v3_ (ext_limbs _) (by rfl))) rfl ⟨?_, H.below⟩
      rw [h1.out]; rfl
open Go.RowKit
theorem r7Width_0 (w : World) :
    Calls Tryz.prog 140 #[.int .u8 0] w fun e w' => e = .returned (.int .i64 32) ∧ Below w.heap.size w w' := by
  have H := Own.start w
  go_enter Tryz.func140, Tryz.ntmps140
  exact walk1
theorem r7Width_1 (w : World) :
    Calls Tryz.prog 140 #[.int .u8 1] w fun e w' => e = .returned (.int .i64 64) ∧ Below w.heap.size w w' := by
  have H := Own.start w
  go_enter Tryz.func140, Tryz.ntmps140
  exact walk1
theorem r7Width_2 (w : World) :
    Calls Tryz.prog 140 #[.int .u8 2] w fun e w' => e = .returned (.int .i64 16) ∧ Below w.heap.size w w' := by
  have H := Own.start w
  go_enter Tryz.func140, Tryz.ntmps140
  exact walk1
theorem r7Width_3 (w : World) :
    Calls Tryz.prog 140 #[.int .u8 3] w fun e w' => e = .returned (.int .i64 128) ∧ Below w.heap.size w w' := by
  have H := Own.start w
  go_enter Tryz.func140, Tryz.ntmps140
  exact walk1
theorem r7Width_o (f : Nat) (w : World) (h2 : ((f : Int) == 2) = false) (h0 : ((f : Int) == 0) = false) (h1 : ((f : Int) == 1) = false) (h3 : ((f : Int) == 3) = false) :
    Calls Tryz.prog 140 #[.int .u8 f] w fun e w' => e = .returned (.int .i64 0) ∧ Below w.heap.size w w' := by
  have H := Own.start w
  go_enter Tryz.func140, Tryz.ntmps140
  exact walk1
theorem r7Width_any (f : Nat) (w : World) : Calls Tryz.prog 140 #[.int .u8 f] w fun e w' => e = .returned (.int .i64 (wF f : Nat)) ∧ Below w.heap.size w w' := by
  rcases forms f with rfl | rfl | rfl | rfl | h
  · exact r7Width_0 w
  · exact r7Width_1 w
  · exact r7Width_2 w
  · exact r7Width_3 w
  · have := r7Width_o f w (int_eq_false f 2 (by omega)) (int_eq_false f 0 (by omega)) (int_eq_false f 1 (by omega)) (int_eq_false f 3 (by omega))
    rw [show wF f = 0 by have := wF_big f h; simp [this]]
    exact this
theorem r7Precision_0 (w : World) :
    Calls Tryz.prog 173 #[.int .u8 0] w fun e w' => e = .returned (.int .i64 24) ∧ Below w.heap.size w w' := by
  have H := Own.start w
  go_enter Tryz.func173, Tryz.ntmps173
  exact walk1
theorem r7Precision_1 (w : World) :
    Calls Tryz.prog 173 #[.int .u8 1] w fun e w' => e = .returned (.int .i64 53) ∧ Below w.heap.size w w' := by
  have H := Own.start w
  go_enter Tryz.func173, Tryz.ntmps173
  exact walk1
theorem r7Precision_2 (w : World) :
    Calls Tryz.prog 173 #[.int .u8 2] w fun e w' => e = .returned (.int .i64 11) ∧ Below w.heap.size w w' := by
  have H := Own.start w
  go_enter Tryz.func173, Tryz.ntmps173
  exact walk1
theorem r7Precision_3 (w : World) :
    Calls Tryz.prog 173 #[.int .u8 3] w fun e w' => e = .returned (.int .i64 113) ∧ Below w.heap.size w w' := by
  have H := Own.start w
  go_enter Tryz.func173, Tryz.ntmps173
  exact walk1
theorem r7Precision_o (f : Nat) (w : World) (h2 : ((f : Int) == 2) = false) (h0 : ((f : Int) == 0) = false) (h1 : ((f : Int) == 1) = false) (h3 : ((f : Int) == 3) = false) :
    Calls Tryz.prog 173 #[.int .u8 f] w fun e w' => e = .returned (.int .i64 0) ∧ Below w.heap.size w w' := by
  have H := Own.start w
  go_enter Tryz.func173, Tryz.ntmps173
  exact walk1
theorem r7Precision_any (f : Nat) (w : World) : Calls Tryz.prog 173 #[.int .u8 f] w fun e w' => e = .returned (.int .i64 (pF f : Nat)) ∧ Below w.heap.size w w' := by
  rcases forms f with rfl | rfl | rfl | rfl | h
  · exact r7Precision_0 w
  · exact r7Precision_1 w
  · exact r7Precision_2 w
  · exact r7Precision_3 w
  · have := r7Precision_o f w (int_eq_false f 2 (by omega)) (int_eq_false f 0 (by omega)) (int_eq_false f 1 (by omega)) (int_eq_false f 3 (by omega))
    rw [show pF f = 0 by have := wF_big f h; simp [this]]
    exact this
theorem r7Emax_0 (w : World) :
    Calls Tryz.prog 179 #[.int .u8 0] w fun e w' => e = .returned (.int .i64 127) ∧ Below w.heap.size w w' := by
  have H := Own.start w
  go_enter Tryz.func179, Tryz.ntmps179
  exact walk1
theorem r7Emax_1 (w : World) :
    Calls Tryz.prog 179 #[.int .u8 1] w fun e w' => e = .returned (.int .i64 1023) ∧ Below w.heap.size w w' := by
  have H := Own.start w
  go_enter Tryz.func179, Tryz.ntmps179
  exact walk1
theorem r7Emax_2 (w : World) :
    Calls Tryz.prog 179 #[.int .u8 2] w fun e w' => e = .returned (.int .i64 15) ∧ Below w.heap.size w w' := by
  have H := Own.start w
  go_enter Tryz.func179, Tryz.ntmps179
  exact walk1
theorem r7Emax_3 (w : World) :
    Calls Tryz.prog 179 #[.int .u8 3] w fun e w' => e = .returned (.int .i64 16383) ∧ Below w.heap.size w w' := by
  have H := Own.start w
  go_enter Tryz.func179, Tryz.ntmps179
  exact walk1
theorem r7Emax_o (f : Nat) (w : World) (h2 : ((f : Int) == 2) = false) (h0 : ((f : Int) == 0) = false) (h1 : ((f : Int) == 1) = false) (h3 : ((f : Int) == 3) = false) :
    Calls Tryz.prog 179 #[.int .u8 f] w fun e w' => e = .returned (.int .i64 0) ∧ Below w.heap.size w w' := by
  have H := Own.start w
  go_enter Tryz.func179, Tryz.ntmps179
  exact walk1
theorem r7Emax_any (f : Nat) (w : World) : Calls Tryz.prog 179 #[.int .u8 f] w fun e w' => e = .returned (.int .i64 (eF f : Nat)) ∧ Below w.heap.size w w' := by
  rcases forms f with rfl | rfl | rfl | rfl | h
  · exact r7Emax_0 w
  · exact r7Emax_1 w
  · exact r7Emax_2 w
  · exact r7Emax_3 w
  · have := r7Emax_o f w (int_eq_false f 2 (by omega)) (int_eq_false f 0 (by omega)) (int_eq_false f 1 (by omega)) (int_eq_false f 3 (by omega))
    rw [show eF f = 0 by have := wF_big f h; simp [this]]
    exact this
theorem r7Ones_any (f : Nat) (w : World) :
    Calls Tryz.prog 175 #[.int .u8 f] w fun e w' => e = .returned (.int .i64 (2 * eF f + 1 : Nat)) ∧ Below w.heap.size w w' := by
  have H := Own.start w
  have he := eF_le f
  have HR := Lib.hid (show (2 * (eF f : Int) + 1) = ((2 * eF f + 1 : Nat) : Int) by omega)
  go_enter Tryz.func175, Tryz.ntmps175
  exact walk2
theorem r7Right_any (f : Nat) (w : World) :
    Calls Tryz.prog 62 #[.int .u8 f] w fun e w' => e = .returned (.bool (decide (f < 4))) ∧ Below w.heap.size w w' := by
  have H := Own.start w
  go_enter Tryz.func62, Tryz.ntmps62
  exact walk1
theorem r7RightMode_any (f : Nat) (w : World) :
    Calls Tryz.prog 49 #[.int .u8 f] w fun e w' => e = .returned (.bool (decide (f < 5))) ∧ Below w.heap.size w w' := by
  have H := Own.start w
  go_enter Tryz.func49, Tryz.ntmps49
  exact walk1
theorem r7Emin_t (f : Nat) (w : World) (hf : f < 4) :
    Calls Tryz.prog 180 #[.int .u8 f] w fun e w' => e = .returned (.int .i64 (1 - (eF f : Nat))) ∧ Below w.heap.size w w' := by
  have H := Own.start w
  have he := eF_le f
  have cR := fun w => r7Right_any f w
  rw [decide_eq_true hf] at cR
  clear hf
  go_enter Tryz.func180, Tryz.ntmps180
  exact walk2
theorem r7Emin_f (f : Nat) (w : World) (hf : ¬ f < 4) :
    Calls Tryz.prog 180 #[.int .u8 f] w fun e w' => e = .returned (.int .i64 (0)) ∧ Below w.heap.size w w' := by
  have H := Own.start w
  have he := eF_le f
  have cR := fun w => r7Right_any f w
  rw [decide_eq_false hf] at cR
  clear hf
  go_enter Tryz.func180, Tryz.ntmps180
  exact walk2
theorem r7Emin_any (f : Nat) (w : World) : Calls Tryz.prog 180 #[.int .u8 f] w fun e w' => e = .returned (.int .i64 (eminI f)) ∧ Below w.heap.size w w' := by
  unfold eminI
  by_cases hf : f < 4
  · rw [decide_eq_true hf]; exact r7Emin_t f w hf
  · rw [decide_eq_false hf]; exact r7Emin_f f w hf
open Go.RowKit
theorem results_ttc {P : Program} {w : World} {fn : Func} {tmps : Array Value} {s t u : Tmp} {T : TypeId} (h : fn.results = #[.tmp s, .tmp u, .cell t T]) {A : Addr} (ha : tmps.getD t undef = .pointer (some A)) {v : Value} (hr : (loadVar T A).run P w = .ok v w) :
    (results fn tmps).run P w = .ok (.tuple #[tmps.getD s undef, tmps.getD u undef, v]) w := by
  rw [Array.getD_eq_getD_getElem?] at ha
  simp [results, h, ha, asAddr, hr]
theorem exp_ones (y d : Nat) (hd : d ≤ 15) : Go.bits .and .i64 (IntKind.i64.wrap (limb y 0)) ((2 ^ d - 1 : Nat) : Int) = ((y % 2 ^ d : Nat) : Int) := by
  have h := field_exp y d hd
  have y1 : 2 ^ d ≤ 2 ^ 15 := Nat.pow_le_pow_right (by decide) hd
  have e : IntKind.i64.wrap (IntKind.i64.wrap ((2 : Int) ^ d) - 1) = ((2 ^ d - 1 : Nat) : Int) := by
    have y0 := Nat.two_pow_pos d
    rw [show (2 : Int) ^ d = ((2 ^ d : Nat) : Int) by simp, IntKind.wrap_i64, IntKind.wrap_i64]
    generalize 2 ^ d = y at *
    omega
  rw [e] at h; exact h
set_option maxHeartbeats 6400000 in
theorem r7Fields_w (f b q r p n o y m t : Nat) (tb lo : Bool) (w : World) (hq : IntKind.i64.wrap ((p : Int) - 1) = (q : Int)) (hr : IntKind.i64.wrap ((n : Int) - 1) = (r : Int)) (cF : CK_ 139 #[BV b] (W b)) (cW : CK_ 140 #[.int .u8 f] (.int .i64 (n : Nat))) (cP : CK_ 173 #[.int .u8 f] (.int .i64 (p : Nat))) (cB : CK_ 202 #[W b, .int .i64 (r : Nat)] (.bool tb)) (cM : CK_ 182 #[.int .i64 (q : Nat)] (W m)) (cA : CK_ 181 #[W b, W m] (W t)) (cR : CK_ 203 #[W b, .int .i64 (q : Nat)] (.tuple #[W y, .bool lo])) (cO : CK_ 175 #[.int .u8 f] (.int .i64 (o : Nat))) :
    Calls Tryz.prog 141 #[.int .u8 f, BV b] w fun e w' => e = .returned (.tuple #[.bool tb, .int .i64 (Go.bits .and .i64 (IntKind.i64.wrap (limb y 0)) (o : Nat)), W t]) ∧ Below w.heap.size w w' := by
  have H := Own.start w
  go_enter Tryz.func141, Tryz.ntmps141
  exact walk2
theorem r7Fields_any (f b : Nat) (w : World) (hf : f < 4) (hb : b < 2 ^ (64 * 2)) :
    Calls Tryz.prog 141 #[.int .u8 f, BV b] w fun e w' => e = .returned (.tuple #[.bool (negN f b), .int .i64 (expN f b : Nat), W (b % 2 ^ (pF f - 1))]) ∧ Below w.heap.size w w' := by
  obtain ⟨p1, p2, n1, n2, np1, np2⟩ := formB f hf
  obtain ⟨-, -, k3, k4, k5, -, -⟩ := formK f hf
  have cW := fun w => r7Width_any f w
  have cP := fun w => r7Precision_any f w
  have cO := fun w => r7Ones_any f w
  have hbt := lt_top_bits b hb
  have e1 := exp_ones (b / 2 ^ (pF f - 1)) (wF f - pF f) (by omega)
  rw [k3, show 2 * eF f + 2 - 1 = 2 * eF f + 1 by omega] at e1
  have cM := fun w => r2Mask_any ((pF f - 1 : Nat) : Int) w
  have cA := fun w => r2And_any b (2 ^ (pF f - 1) - 1) w
  have cR := fun w => r2Right_any b ((pF f - 1 : Nat) : Int) w hbt
  rw [clip_of _ (by omega)] at cM cR
  rw [Nat.and_two_pow_sub_one_eq_mod] at cA
  have h := r7Fields_w f b (pF f - 1) (wF f - 1) (pF f) (wF f) (2 * eF f + 1) _ _ _ _ _ w
    (by rw [show (pF f : Int) - 1 = ((pF f - 1 : Nat) : Int) by omega]; exact IntWalk.i64_in _ (by omega))
    (by rw [show (wF f : Int) - 1 = ((wF f - 1 : Nat) : Int) by omega]; exact IntWalk.i64_in _ (by omega))
    (fun w => r2OfBits_any b w hb) cW cP (fun w => r2Bit_any b (wF f - 1) w (by omega)) cM cA cR cO
  rw [e1, ← k3] at h
  exact h
open Go.RowKit
theorem r8Class_nan_true (f b e0 o t p2 p : Nat) (neg qb : Bool) (w : World) (cF : CK_ 141 #[.int .u8 f, BV b] (.tuple #[.bool neg, .int .i64 (e0 : Nat), W t])) (cO : CK_ 175 #[.int .u8 f] (.int .i64 (o : Nat))) (eq1 : ∀ w, (Op.equalIn 10000 63 (.agg (limbs t)) (.agg #[.int .u64 0, .int .u64 0, .int .u64 0, .int .u64 0, .int .u64 0, .int .u64 0])).run Tryz.prog w = .ok false w) (hx : ((e0 : Int) == (o : Int)) = true) (hp : IntKind.i64.wrap ((p : Int) - 2) = (p2 : Int)) (cP : CK_ 173 #[.int .u8 f] (.int .i64 (p : Nat))) (cB : CK_ 202 #[W t, .int .i64 (p2 : Nat)] (.bool true))  :
    Calls Tryz.prog 142 #[.int .u8 f, BV b] w fun e w' => e = .returned (.int .u8 9) ∧ Below w.heap.size w w' := by
  have H := Own.start w
  go_enter Tryz.func142, Tryz.ntmps142
  exact walk4
theorem r8Class_nan_false (f b e0 o t p2 p : Nat) (neg qb : Bool) (w : World) (cF : CK_ 141 #[.int .u8 f, BV b] (.tuple #[.bool neg, .int .i64 (e0 : Nat), W t])) (cO : CK_ 175 #[.int .u8 f] (.int .i64 (o : Nat))) (eq1 : ∀ w, (Op.equalIn 10000 63 (.agg (limbs t)) (.agg #[.int .u64 0, .int .u64 0, .int .u64 0, .int .u64 0, .int .u64 0, .int .u64 0])).run Tryz.prog w = .ok false w) (hx : ((e0 : Int) == (o : Int)) = true) (hp : IntKind.i64.wrap ((p : Int) - 2) = (p2 : Int)) (cP : CK_ 173 #[.int .u8 f] (.int .i64 (p : Nat))) (cB : CK_ 202 #[W t, .int .i64 (p2 : Nat)] (.bool false))  :
    Calls Tryz.prog 142 #[.int .u8 f, BV b] w fun e w' => e = .returned (.int .u8 8) ∧ Below w.heap.size w w' := by
  have H := Own.start w
  go_enter Tryz.func142, Tryz.ntmps142
  exact walk4
theorem r8Class_inf_true (f b e0 o t p2 p : Nat) (neg qb : Bool) (w : World) (cF : CK_ 141 #[.int .u8 f, BV b] (.tuple #[.bool true, .int .i64 (e0 : Nat), W t])) (cO : CK_ 175 #[.int .u8 f] (.int .i64 (o : Nat))) (eq1 : ∀ w, (Op.equalIn 10000 63 (.agg (limbs t)) (.agg #[.int .u64 0, .int .u64 0, .int .u64 0, .int .u64 0, .int .u64 0, .int .u64 0])).run Tryz.prog w = .ok true w) (hx : ((e0 : Int) == (o : Int)) = true)  :
    Calls Tryz.prog 142 #[.int .u8 f, BV b] w fun e w' => e = .returned (.int .u8 0) ∧ Below w.heap.size w w' := by
  have H := Own.start w
  go_enter Tryz.func142, Tryz.ntmps142
  exact walk4
theorem r8Class_nor_true (f b e0 o t p2 p : Nat) (neg qb : Bool) (w : World) (cF : CK_ 141 #[.int .u8 f, BV b] (.tuple #[.bool true, .int .i64 (e0 : Nat), W t])) (cO : CK_ 175 #[.int .u8 f] (.int .i64 (o : Nat))) (hx : ((e0 : Int) == (o : Int)) = false) (hy : ((e0 : Int) != 0) = true)  :
    Calls Tryz.prog 142 #[.int .u8 f, BV b] w fun e w' => e = .returned (.int .u8 1) ∧ Below w.heap.size w w' := by
  have H := Own.start w
  go_enter Tryz.func142, Tryz.ntmps142
  exact walk4
theorem r8Class_sub_true (f b e0 o t p2 p : Nat) (neg qb : Bool) (w : World) (cF : CK_ 141 #[.int .u8 f, BV b] (.tuple #[.bool true, .int .i64 (e0 : Nat), W t])) (cO : CK_ 175 #[.int .u8 f] (.int .i64 (o : Nat))) (hx : ((e0 : Int) == (o : Int)) = false) (hy : ((e0 : Int) != 0) = false) (eq1 : ∀ w, (Op.equalIn 10000 63 (.agg (limbs t)) (.agg #[.int .u64 0, .int .u64 0, .int .u64 0, .int .u64 0, .int .u64 0, .int .u64 0])).run Tryz.prog w = .ok false w)  :
    Calls Tryz.prog 142 #[.int .u8 f, BV b] w fun e w' => e = .returned (.int .u8 2) ∧ Below w.heap.size w w' := by
  have H := Own.start w
  go_enter Tryz.func142, Tryz.ntmps142
  exact walk4
theorem r8Class_zer_true (f b e0 o t p2 p : Nat) (neg qb : Bool) (w : World) (cF : CK_ 141 #[.int .u8 f, BV b] (.tuple #[.bool true, .int .i64 (e0 : Nat), W t])) (cO : CK_ 175 #[.int .u8 f] (.int .i64 (o : Nat))) (hx : ((e0 : Int) == (o : Int)) = false) (hy : ((e0 : Int) != 0) = false) (eq1 : ∀ w, (Op.equalIn 10000 63 (.agg (limbs t)) (.agg #[.int .u64 0, .int .u64 0, .int .u64 0, .int .u64 0, .int .u64 0, .int .u64 0])).run Tryz.prog w = .ok true w)  :
    Calls Tryz.prog 142 #[.int .u8 f, BV b] w fun e w' => e = .returned (.int .u8 3) ∧ Below w.heap.size w w' := by
  have H := Own.start w
  go_enter Tryz.func142, Tryz.ntmps142
  exact walk4
theorem r8Class_inf_false (f b e0 o t p2 p : Nat) (neg qb : Bool) (w : World) (cF : CK_ 141 #[.int .u8 f, BV b] (.tuple #[.bool false, .int .i64 (e0 : Nat), W t])) (cO : CK_ 175 #[.int .u8 f] (.int .i64 (o : Nat))) (eq1 : ∀ w, (Op.equalIn 10000 63 (.agg (limbs t)) (.agg #[.int .u64 0, .int .u64 0, .int .u64 0, .int .u64 0, .int .u64 0, .int .u64 0])).run Tryz.prog w = .ok true w) (hx : ((e0 : Int) == (o : Int)) = true)  :
    Calls Tryz.prog 142 #[.int .u8 f, BV b] w fun e w' => e = .returned (.int .u8 7) ∧ Below w.heap.size w w' := by
  have H := Own.start w
  go_enter Tryz.func142, Tryz.ntmps142
  exact walk4
theorem r8Class_nor_false (f b e0 o t p2 p : Nat) (neg qb : Bool) (w : World) (cF : CK_ 141 #[.int .u8 f, BV b] (.tuple #[.bool false, .int .i64 (e0 : Nat), W t])) (cO : CK_ 175 #[.int .u8 f] (.int .i64 (o : Nat))) (hx : ((e0 : Int) == (o : Int)) = false) (hy : ((e0 : Int) != 0) = true)  :
    Calls Tryz.prog 142 #[.int .u8 f, BV b] w fun e w' => e = .returned (.int .u8 6) ∧ Below w.heap.size w w' := by
  have H := Own.start w
  go_enter Tryz.func142, Tryz.ntmps142
  exact walk4
theorem r8Class_sub_false (f b e0 o t p2 p : Nat) (neg qb : Bool) (w : World) (cF : CK_ 141 #[.int .u8 f, BV b] (.tuple #[.bool false, .int .i64 (e0 : Nat), W t])) (cO : CK_ 175 #[.int .u8 f] (.int .i64 (o : Nat))) (hx : ((e0 : Int) == (o : Int)) = false) (hy : ((e0 : Int) != 0) = false) (eq1 : ∀ w, (Op.equalIn 10000 63 (.agg (limbs t)) (.agg #[.int .u64 0, .int .u64 0, .int .u64 0, .int .u64 0, .int .u64 0, .int .u64 0])).run Tryz.prog w = .ok false w)  :
    Calls Tryz.prog 142 #[.int .u8 f, BV b] w fun e w' => e = .returned (.int .u8 5) ∧ Below w.heap.size w w' := by
  have H := Own.start w
  go_enter Tryz.func142, Tryz.ntmps142
  exact walk4
theorem r8Class_zer_false (f b e0 o t p2 p : Nat) (neg qb : Bool) (w : World) (cF : CK_ 141 #[.int .u8 f, BV b] (.tuple #[.bool false, .int .i64 (e0 : Nat), W t])) (cO : CK_ 175 #[.int .u8 f] (.int .i64 (o : Nat))) (hx : ((e0 : Int) == (o : Int)) = false) (hy : ((e0 : Int) != 0) = false) (eq1 : ∀ w, (Op.equalIn 10000 63 (.agg (limbs t)) (.agg #[.int .u64 0, .int .u64 0, .int .u64 0, .int .u64 0, .int .u64 0, .int .u64 0])).run Tryz.prog w = .ok true w)  :
    Calls Tryz.prog 142 #[.int .u8 f, BV b] w fun e w' => e = .returned (.int .u8 4) ∧ Below w.heap.size w w' := by
  have H := Own.start w
  go_enter Tryz.func142, Tryz.ntmps142
  exact walk4
theorem r8Class_any (f b : Nat) (w : World) (hf : f < 4) (hb : b < 2 ^ (64 * 2)) :
    Calls Tryz.prog 142 #[.int .u8 f, BV b] w fun e w' => e = .returned (.int .u8 (clsN f b : Nat)) ∧ Below w.heap.size w w' := by
  have cF := fun w => r7Fields_any f b w hf hb
  have cO := fun w => r7Ones_any f w
  have cP := fun w => r7Precision_any f w
  obtain ⟨p1, p2, -, -, -, -⟩ := formB f hf
  have ht : b % 2 ^ (pF f - 1) < top6 := Nat.lt_of_le_of_lt (Nat.mod_le _ _) (lt_top_bits b hb)
  have eq1 : ∀ w, (Op.equalIn 10000 63 (.agg (limbs (b % 2 ^ (pF f - 1)))) (.agg #[.int .u64 0, .int .u64 0, .int .u64 0, .int .u64 0, .int .u64 0, .int .u64 0])).run Tryz.prog w = .ok (decide (b % 2 ^ (pF f - 1) = 0)) w := fun w => run_equal_zero w _ ht
  unfold clsN
  unfold negN at cF
  generalize b % 2 ^ (pF f - 1) = t at *
  generalize expN f b = e at *
  generalize b.testBit (wF f - 1) = neg at *
  generalize eF f = m at *
  have cB := fun w => r2Bit_any t (pF f - 2) w (by omega)
  have hp : IntKind.i64.wrap ((pF f : Int) - 2) = ((pF f - 2 : Nat) : Int) := by rw [show (pF f : Int) - 2 = ((pF f - 2 : Nat) : Int) by omega]; exact IntWalk.i64_in _ (by omega)
  generalize pF f = p at *
  by_cases hx : e = 2 * m + 1
  · have hxb : ((e : Int) == ((2 * m + 1 : Nat) : Int)) = true := int_eq_true _ _ hx
    rw [if_pos hx]
    by_cases hz : t = 0
    · rw [decide_eq_true hz] at eq1
      rw [if_pos hz]
      cases neg
      · exact r8Class_inf_false f b e _ t 0 0 false false w cF cO eq1 hxb
      · exact r8Class_inf_true f b e _ t 0 0 false false w cF cO eq1 hxb
    · rw [decide_eq_false hz] at eq1
      rw [if_neg hz]
      cases hq : t.testBit (p - 2) <;> rw [hq] at cB
      · exact r8Class_nan_false f b e _ t (p - 2) p neg false w cF cO eq1 hxb hp cP cB
      · exact r8Class_nan_true f b e _ t (p - 2) p neg false w cF cO eq1 hxb hp cP cB
  · have hxb : ((e : Int) == ((2 * m + 1 : Nat) : Int)) = false := int_eq_false _ _ hx
    rw [if_neg hx]
    by_cases hy : e = 0
    · have hyb : ((e : Int) != 0) = false := by rw [hy]; rfl
      rw [if_pos hy]
      by_cases hz : t = 0
      · rw [decide_eq_true hz] at eq1
        rw [if_pos hz]
        cases neg
        · exact r8Class_zer_false f b e _ t 0 0 false false w cF cO hxb hyb eq1
        · exact r8Class_zer_true f b e _ t 0 0 false false w cF cO hxb hyb eq1
      · rw [decide_eq_false hz] at eq1
        rw [if_neg hz]
        cases neg
        · exact r8Class_sub_false f b e _ t 0 0 false false w cF cO hxb hyb eq1
        · exact r8Class_sub_true f b e _ t 0 0 false false w cF cO hxb hyb eq1
    · have hyb : ((e : Int) != 0) = true := by have := int_eq_false e 0 hy; rw [bne]; rw [show (0 : Int) = ((0 : Nat) : Int) from rfl, this]; rfl
      rw [if_neg hy]
      cases neg
      · exact r8Class_nor_false f b e _ t 0 0 false false w cF cO hxb hyb
      · exact r8Class_nor_true f b e _ t 0 0 false false w cF cO hxb hyb
theorem r8IsInf_t (f b c : Nat) (w : World) (hc : c = 0) (cC : CK_ 142 #[.int .u8 f, BV b] (.int .u8 (c : Nat)))  :
    Calls Tryz.prog 53 #[.int .u8 f, BV b] w fun e w' => e = .returned (.bool (infB c)) ∧ Below w.heap.size w w' := by
  have H := Own.start w
  have e1 : ((c : Int) == 0) = true := int_eq_true c 0 hc
  have HR := Lib.hid (show true = infB c by rw [hc]; rfl)
  clear hc
  go_enter Tryz.func53, Tryz.ntmps53
  exact walk3
theorem r8IsInf_f (f b c : Nat) (w : World) (hc : c ≠ 0) (cC : CK_ 142 #[.int .u8 f, BV b] (.int .u8 (c : Nat)))  :
    Calls Tryz.prog 53 #[.int .u8 f, BV b] w fun e w' => e = .returned (.bool (infB c)) ∧ Below w.heap.size w w' := by
  have H := Own.start w
  have e1 : ((c : Int) == 0) = false := int_eq_false c 0 hc
  have HR := Lib.hid (show ∀ b : Bool, b = decide (c = 7) → b = infB c by intro b hb; unfold infB; rw [decide_eq_false hc]; exact hb)
  clear hc
  go_enter Tryz.func53, Tryz.ntmps53
  exact walk3
theorem r8IsZero_t (f b c : Nat) (w : World) (hc : c = 3) (cC : CK_ 142 #[.int .u8 f, BV b] (.int .u8 (c : Nat)))  :
    Calls Tryz.prog 80 #[.int .u8 f, BV b] w fun e w' => e = .returned (.bool (zerB c)) ∧ Below w.heap.size w w' := by
  have H := Own.start w
  have e1 : ((c : Int) == 3) = true := int_eq_true c 3 hc
  have HR := Lib.hid (show true = zerB c by rw [hc]; rfl)
  clear hc
  go_enter Tryz.func80, Tryz.ntmps80
  exact walk3
theorem r8IsZero_f (f b c : Nat) (w : World) (hc : c ≠ 3) (cC : CK_ 142 #[.int .u8 f, BV b] (.int .u8 (c : Nat)))  :
    Calls Tryz.prog 80 #[.int .u8 f, BV b] w fun e w' => e = .returned (.bool (zerB c)) ∧ Below w.heap.size w w' := by
  have H := Own.start w
  have e1 : ((c : Int) == 3) = false := int_eq_false c 3 hc
  have HR := Lib.hid (show ∀ b : Bool, b = decide (c = 4) → b = zerB c by intro b hb; unfold zerB; rw [decide_eq_false hc]; exact hb)
  clear hc
  go_enter Tryz.func80, Tryz.ntmps80
  exact walk3
open Go.RowKit
theorem limbs_mod6 (a : Nat) : limbs (a % 2 ^ (64 * 6)) = limbs a := by
  have := limbs_mod a
  unfold top6 at this
  exact this
theorem put_sum (a b k : Nat) (cb : Bool) (hk : k < 6) (h : cbit a b k = cb) : (limbs ((a + b) % 2 ^ (64 * k))).setIfInBounds k (.int .u64 (addW (limb a k) (limb b k) cb)) = limbs ((a + b) % 2 ^ (64 * (k + 1))) := by
  unfold limb
  rw [addW_nat, limbs_put _ _ k hk (Nat.mod_lt _ (pw_pos k)) (Nat.mod_lt _ (by decide)), sum_step, h]
theorem car_sum (a b k : Nat) (cb : Bool) (h : cbit a b k = cb) : cbit a b (k + 1) = carW (limb a k) (limb b k) cb := by
  unfold limb
  rw [carW_nat, cbit_step, h]
theorem wideAdd_any (a b : Nat) (w : World) :
    Calls Tryz.prog 121 #[W a, W b] w fun e w' => e = .returned (.tuple #[W (a + b), .bool (cbit a b 6)]) ∧ Below w.heap.size w w' := by
  have sa := limbs_size a
  have sb := limbs_size b
  go_enter Tryz.func121, Tryz.ntmps121
  go_wp2_with fail
  go_loopw [5, 7] (fun c i wr => ∃ (k : Nat) (cb : Bool), k ≤ 6 ∧ i = .int .i64 k ∧ c = .bool cb ∧ Hid (cbit a b k = cb) ∧
      Blk 63 wr w.heap.size (limbs a) ∧ Blk 63 wr (w.heap.size + 1) (limbs b) ∧
      Blk 63 wr (w.heap.size + 1 + 1) (limbs ((a + b) % 2 ^ (64 * k))) ∧ Below w.heap.size w wr) (fun _ i _ => 6 - (intOf i).toNat)
  case atStart =>
    refine ⟨0, false, by omega, rfl, rfl, cbit_zero a b, ((Blk.new w _).alloc _).alloc _, ?_, ?_, ((((Below.refl _ _).alloc (Nat.le_refl _) _).alloc (by simp) _).alloc (by simp <;> omega) _)⟩
    · have := (Blk.new (T := 63) (w.alloc (.cells (limbs a) 63)) (limbs b)).alloc (.cells #[.int .u64 0, .int .u64 0, .int .u64 0, .int .u64 0, .int .u64 0, .int .u64 0] 63)
      simpa using this
    · have := Blk.new (T := 63) ((w.alloc (.cells (limbs a) 63)).alloc (.cells (limbs b) 63)) #[.int .u64 0, .int .u64 0, .int .u64 0, .int .u64 0, .int .u64 0, .int .u64 0]
      rw [show (a + b) % 2 ^ (64 * 0) = 0 from Nat.mod_one _, limbs_zero]
      simpa using this
  case round =>
    obtain ⟨k, cb, hk, rfl, rfl, hc, ha, hb, hs, hbel⟩ := hrel
    by_cases hlt : k < 6
    · have ca := ha.cell k (limbs_get a k hlt)
      have cb' := hb.cell k (limbs_get b k hlt)
      have cs := hs.cell k (limbs_get _ k hlt)
      have fs := hs.free k
      go_wp2_with fail
      go_region_with (go_at_call 184; refine (wordAdd_any _ _ _ _ (limb_w a k) (limb_w b k)).mono ?_; rintro e w' ⟨rfl, rfl⟩)
      all_goals go_wp2
      all_goals
        go_roundw
        case rel => exact ⟨k + 1, _, by omega, by go_num, rfl, car_sum a b k cb hc.out, (ha.other _ _ (by simp; omega)).drew, (hb.other _ _ (by simp)).drew, (hs.set k _ (put_sum a b k cb (by omega) hc.out)).drew, (hbel.setCell (by simp; omega) _).drew⟩
        case measure => simp [intOf]; omega
    · have : k = 6 := by omega
      subst this
      rw [limbs_mod6] at hs
      have c0 := hs.cell 0 (limbs_get _ 0 (by decide))
      have c1 := hs.cell 1 (limbs_get _ 1 (by decide))
      have c2 := hs.cell 2 (limbs_get _ 2 (by decide))
      have c3 := hs.cell 3 (limbs_get _ 3 (by decide))
      have c4 := hs.cell 4 (limbs_get _ 4 (by decide))
      have c5 := hs.cell 5 (limbs_get _ 5 (by decide))
      have f0 := hs.free 0
      have f1 := hs.free 1
      have f2 := hs.free 2
      have f3 := hs.free 3
      have f4 := hs.free 4
      have f5 := hs.free 5
      clear ha hb hlt
      go_wp2_with fail
      rw [hs.keep 0 _ (limbs_get _ 0 (by decide)), hs.keep 1 _ (limbs_get _ 1 (by decide)), hs.keep 2 _ (limbs_get _ 2 (by decide)), hs.keep 3 _ (limbs_get _ 3 (by decide)), hs.keep 4 _ (limbs_get _ 4 (by decide)), hs.keep 5 _ (limbs_get _ 5 (by decide))]
      refine bodyPost_ret (v := .tuple #[W (a + b), .bool cb]) (by simp [results, Tryz.results121, go_sem, c0, c1, c2, c3, c4, c5, limbs]) rfl ⟨by rw [hc.out], hbel⟩
open Go.RowKit
def AddAt (a b : Nat) (c0 : Bool) (k s : Nat) (c : Bool) : Prop := a % 2 ^ k + b % 2 ^ k + c0.toNat = s + 2 ^ k * c.toNat ∧ s < 2 ^ k
theorem addAt_zero (a b : Nat) (c0 : Bool) : AddAt a b c0 0 0 c0 := by unfold AddAt; rw [Nat.pow_zero, Nat.mod_one, Nat.mod_one]; exact ⟨by omega, by decide⟩
theorem bit_cond (a k : Nat) : a % 2 ^ (k + 1) = a % 2 ^ k + 2 ^ k * (a.testBit k).toNat := by
  cases h : a.testBit k
  · rw [bit_f a k h]; rfl
  · rw [bit_t a k h]; show _ = _ + 2 ^ k * 1; rw [Nat.mul_one]
theorem addAt_step (a b : Nat) (c0 : Bool) (k s : Nat) (c : Bool) (h : AddAt a b c0 k s c) :
    AddAt a b c0 (k + 1) (cond ((a.testBit k != b.testBit k) != c) (s + 2 ^ k) s) (a.testBit k && b.testBit k || (a.testBit k && c || b.testBit k && c)) := by
  obtain ⟨h1, h2⟩ := h
  unfold AddAt
  rw [bit_cond a k, bit_cond b k, Nat.pow_succ]
  cases a.testBit k <;> cases b.testBit k <;> cases c <;> simp at * <;> omega
theorem addAt_all (a b : Nat) (c0 : Bool) (s : Nat) (c : Bool) (ha : a < 18446744073709551616) (hb : b < 18446744073709551616) (h : AddAt a b c0 64 s c) : (s : Int) = addW a b c0 ∧ c = carW a b c0 := by
  obtain ⟨h1, h2⟩ := h
  rw [← B64] at h1 h2
  rw [Nat.mod_eq_of_lt ha, Nat.mod_eq_of_lt hb] at h1
  unfold addW carW
  cases c0 <;> cases c <;> simp at * <;> omega
theorem lenN_bit (x i : Nat) : lenN (x % 2 ^ (i + 1)) = if x.testBit i = true then i + 1 else lenN (x % 2 ^ i) := by
  cases h : x.testBit i
  · rw [bit_f x i h]; rfl
  · rw [bit_t x i h, if_pos rfl]
    have := Nat.mod_lt x (two_pos i)
    exact lenN_unique _ _ (by rw [Nat.add_sub_cancel]; omega) (by rw [Nat.pow_succ]; omega) (by omega)
set_option maxHeartbeats 3200000 in
theorem r1Add_nat (a b : Nat) (c0 : Bool) (w0 : World) (ha : a < 18446744073709551616) (hb : b < 18446744073709551616) :
    Calls Tryz.prog 235 #[.int .u64 a, .int .u64 b, .bool c0] w0 fun e w' => e = .returned (.tuple #[.int .u64 (addW a b c0), .bool (carW a b c0)]) ∧ Below w0.heap.size w0 w' := by
  have H := Own.start w0
  have HA := Lib.hid ha
  have HB := Lib.hid hb
  clear ha hb
  go_enter Tryz.func235, Tryz.ntmps235
  go_wp2_with (first
    | ((with_reducible show wpList _ _ _ (⟨_, .box _ _, _, _, _, _⟩ :: _) _ _); refine H.xb ?_; (intro g w H; simp only [Act.put, q1_, q2_, q3_]))
    | ((with_reducible show wpList _ _ _ (⟨_, .alloc _, _, _, _, _⟩ :: _) _ _); refine H.xa ?_; (intro g w H; simp only [Act.put, q1_, q2_, q3_]))
    | ((with_reducible show wpList _ _ _ (⟨_, .load _ _, _, _, _, _⟩ :: _) _ _); (first | refine H.xl ?_ | refine H.xm ?_); simp only [Act.put, q1_, q2_, q3_])
    | ((with_reducible show wpList _ _ _ (⟨_, .store _ _ _, _, _, _, _⟩ :: _) _ _); (first | refine H.xs ?_ | refine H.xt ?_); (intro w H; simp only [Act.put]))
    | (go_at_call 152; ((with_reducible refine (cA _).mono ?_); rintro e w ⟨rfl, hb⟩; replace H := H.call hb; clear hb))
    | (go_at_call 152; ((with_reducible refine (cB _).mono ?_); rintro e w ⟨rfl, hb⟩; replace H := H.call hb; clear hb))
    )
  go_loopw [2, 8, 9] (fun cv sv iv wr => ∃ (k t : Nat) (c : Bool), k ≤ 64 ∧ iv = .int .i64 k ∧ sv = .int .u64 t ∧ cv = .bool c ∧ Hid (AddAt a b c0 k t c) ∧ Own w0 wr []) (fun _ _ i _ => 64 - (intOf i).toNat)
  case atStart => exact ⟨0, 0, c0, by omega, rfl, rfl, rfl, Lib.hid (addAt_zero a b c0), H⟩
  case round =>
    clear H
    obtain ⟨k, t, c, hk, rfl, rfl, rfl, hA, H⟩ := hrel
    by_cases hlt : k < 64
    · have cA := fun w => r1Bit_any a k w HA.out hlt
      have cB := fun w => r1Bit_any b k w HB.out hlt
      have st := addAt_step a b c0 k t c hA.out
      have ht := hA.out.2
      have HO := Lib.hid (bits_or_top t k ht hlt)
      have hlti : (k : Int) < 64 := by omega
      have e3 : IntKind.u64.wrap (k : Int) = (k : Int) := by rw [IntKind.wrap_u64]; omega
      have e4 : min (k : Int).toNat 64 = k := by omega
      have e5 : min k 64 = k := by omega
      clear ht hA
      cases hx : a.testBit k <;> cases hy : b.testBit k <;> cases c <;> rw [hx] at cA st <;> rw [hy] at cB st <;>
      · have S := Lib.hid st
        clear st hx hy
        go_wp2_with (first
    | ((with_reducible show wpList _ _ _ (⟨_, .box _ _, _, _, _, _⟩ :: _) _ _); refine H.xb ?_; (intro g w H; simp only [Act.put, q1_, q2_, q3_]))
    | ((with_reducible show wpList _ _ _ (⟨_, .alloc _, _, _, _, _⟩ :: _) _ _); refine H.xa ?_; (intro g w H; simp only [Act.put, q1_, q2_, q3_]))
    | ((with_reducible show wpList _ _ _ (⟨_, .load _ _, _, _, _, _⟩ :: _) _ _); (first | refine H.xl ?_ | refine H.xm ?_); simp only [Act.put, q1_, q2_, q3_])
    | ((with_reducible show wpList _ _ _ (⟨_, .store _ _ _, _, _, _, _⟩ :: _) _ _); (first | refine H.xs ?_ | refine H.xt ?_); (intro w H; simp only [Act.put]))
    | (go_at_call 152; ((with_reducible refine (cA _).mono ?_); rintro e w ⟨rfl, hb⟩; replace H := H.call hb; clear hb))
    | (go_at_call 152; ((with_reducible refine (cB _).mono ?_); rintro e w ⟨rfl, hb⟩; replace H := H.call hb; clear hb))
    )
        all_goals
          go_roundw
          case rel => exact ⟨k + 1, _, _, by omega, by go_num, (by first | rfl | (rw [HO.out]; rfl)), rfl, S, H⟩
          case measure => simp [intOf] <;> omega
    · obtain rfl : k = 64 := by omega
      obtain ⟨r1, r2⟩ := addAt_all a b c0 t c HA.out HB.out hA.out
      have h1 := Lib.hid r1
      have h2 := Lib.hid r2
      clear r1 r2 hA hk hlt
      go_wp2_with (first
    | ((with_reducible show wpList _ _ _ (⟨_, .box _ _, _, _, _, _⟩ :: _) _ _); refine H.xb ?_; (intro g w H; simp only [Act.put, q1_, q2_, q3_]))
    | ((with_reducible show wpList _ _ _ (⟨_, .alloc _, _, _, _, _⟩ :: _) _ _); refine H.xa ?_; (intro g w H; simp only [Act.put, q1_, q2_, q3_]))
    | ((with_reducible show wpList _ _ _ (⟨_, .load _ _, _, _, _, _⟩ :: _) _ _); (first | refine H.xl ?_ | refine H.xm ?_); simp only [Act.put, q1_, q2_, q3_])
    | ((with_reducible show wpList _ _ _ (⟨_, .store _ _ _, _, _, _, _⟩ :: _) _ _); (first | refine H.xs ?_ | refine H.xt ?_); (intro w H; simp only [Act.put]))
    | (go_at_call 152; ((with_reducible refine (cA _).mono ?_); rintro e w ⟨rfl, hb⟩; replace H := H.call hb; clear hb))
    | (go_at_call 152; ((with_reducible refine (cB _).mono ?_); rintro e w ⟨rfl, hb⟩; replace H := H.call hb; clear hb))
    )
      go_ret2
      exact ⟨by rw [h1.out, h2.out]; rfl, H.below⟩
theorem r1Add_any (x y : Int) (c : Bool) (w : World) (hx : IsW x) (hy : IsW y) :
    Calls Tryz.prog 235 #[.int .u64 x, .int .u64 y, .bool c] w fun e w' => e = .returned (.tuple #[.int .u64 (addW x y c), .bool (carW x y c)]) ∧ Below w.heap.size w w' := by
  obtain ⟨a, rfl, ha⟩ := hx.nat
  obtain ⟨b, rfl, hb⟩ := hy.nat
  exact r1Add_nat a b c w ha hb
set_option maxHeartbeats 3200000 in
theorem r1Len_any (a : Nat) (w0 : World) (ha : a < 18446744073709551616) :
    Calls Tryz.prog 201 #[.int .u64 a] w0 fun e w' => e = .returned (.int .i64 (lenN a : Nat)) ∧ Below w0.heap.size w0 w' := by
  have H := Own.start w0
  have HA := Lib.hid ha
  clear ha
  go_enter Tryz.func201, Tryz.ntmps201
  go_wp2_with (first
    | ((with_reducible show wpList _ _ _ (⟨_, .box _ _, _, _, _, _⟩ :: _) _ _); refine H.xb ?_; (intro g w H; simp only [Act.put, q1_, q2_, q3_]))
    | ((with_reducible show wpList _ _ _ (⟨_, .alloc _, _, _, _, _⟩ :: _) _ _); refine H.xa ?_; (intro g w H; simp only [Act.put, q1_, q2_, q3_]))
    | ((with_reducible show wpList _ _ _ (⟨_, .load _ _, _, _, _, _⟩ :: _) _ _); (first | refine H.xl ?_ | refine H.xm ?_); simp only [Act.put, q1_, q2_, q3_])
    | ((with_reducible show wpList _ _ _ (⟨_, .store _ _ _, _, _, _, _⟩ :: _) _ _); (first | refine H.xs ?_ | refine H.xt ?_); (intro w H; simp only [Act.put]))
    | (go_at_call 152; ((with_reducible refine (cA _).mono ?_); rintro e w ⟨rfl, hb⟩; replace H := H.call hb; clear hb))
    )
  go_loopw [3, 4] (fun nv iv wr => ∃ (k : Nat), k ≤ 64 ∧ iv = .int .i64 k ∧ nv = .int .i64 (lenN (a % 2 ^ k) : Nat) ∧ Own w0 wr []) (fun _ i _ => 64 - (intOf i).toNat)
  case atStart => exact ⟨0, by omega, rfl, by rw [Nat.pow_zero, Nat.mod_one]; rfl, H⟩
  case round =>
    clear H
    obtain ⟨k, hk, rfl, rfl, H⟩ := hrel
    by_cases hlt : k < 64
    · have cA := fun w => r1Bit_any a k w HA.out hlt
      have st := Lib.hid (lenN_bit a k)
      have hlti : (k : Int) < 64 := by omega
      cases hx : a.testBit k <;> rw [hx] at cA
      · have S := Lib.hid (show lenN (a % 2 ^ (k + 1)) = lenN (a % 2 ^ k) by rw [st.out, hx]; rfl)
        clear hx st
        go_wp2_with (first
    | ((with_reducible show wpList _ _ _ (⟨_, .box _ _, _, _, _, _⟩ :: _) _ _); refine H.xb ?_; (intro g w H; simp only [Act.put, q1_, q2_, q3_]))
    | ((with_reducible show wpList _ _ _ (⟨_, .alloc _, _, _, _, _⟩ :: _) _ _); refine H.xa ?_; (intro g w H; simp only [Act.put, q1_, q2_, q3_]))
    | ((with_reducible show wpList _ _ _ (⟨_, .load _ _, _, _, _, _⟩ :: _) _ _); (first | refine H.xl ?_ | refine H.xm ?_); simp only [Act.put, q1_, q2_, q3_])
    | ((with_reducible show wpList _ _ _ (⟨_, .store _ _ _, _, _, _, _⟩ :: _) _ _); (first | refine H.xs ?_ | refine H.xt ?_); (intro w H; simp only [Act.put]))
    | (go_at_call 152; ((with_reducible refine (cA _).mono ?_); rintro e w ⟨rfl, hb⟩; replace H := H.call hb; clear hb))
    )
        all_goals
          go_roundw
          case rel => exact ⟨k + 1, by omega, by go_num, by rw [S.out], H⟩
          case measure => simp [intOf] <;> omega
      · have S := Lib.hid (show lenN (a % 2 ^ (k + 1)) = k + 1 by rw [st.out, hx]; rfl)
        clear hx st
        go_wp2_with (first
    | ((with_reducible show wpList _ _ _ (⟨_, .box _ _, _, _, _, _⟩ :: _) _ _); refine H.xb ?_; (intro g w H; simp only [Act.put, q1_, q2_, q3_]))
    | ((with_reducible show wpList _ _ _ (⟨_, .alloc _, _, _, _, _⟩ :: _) _ _); refine H.xa ?_; (intro g w H; simp only [Act.put, q1_, q2_, q3_]))
    | ((with_reducible show wpList _ _ _ (⟨_, .load _ _, _, _, _, _⟩ :: _) _ _); (first | refine H.xl ?_ | refine H.xm ?_); simp only [Act.put, q1_, q2_, q3_])
    | ((with_reducible show wpList _ _ _ (⟨_, .store _ _ _, _, _, _, _⟩ :: _) _ _); (first | refine H.xs ?_ | refine H.xt ?_); (intro w H; simp only [Act.put]))
    | (go_at_call 152; ((with_reducible refine (cA _).mono ?_); rintro e w ⟨rfl, hb⟩; replace H := H.call hb; clear hb))
    )
        all_goals
          go_roundw
          case rel => exact ⟨k + 1, by omega, by go_num, by rw [S.out]; go_num, H⟩
          case measure => simp [intOf] <;> omega
    · obtain rfl : k = 64 := by omega
      have h1 := Lib.hid (show a % 2 ^ 64 = a from Nat.mod_eq_of_lt (by rw [← B64]; exact HA.out))
      rw [h1.out]
      clear h1 hk hlt
      go_wp2_with (first
    | ((with_reducible show wpList _ _ _ (⟨_, .box _ _, _, _, _, _⟩ :: _) _ _); refine H.xb ?_; (intro g w H; simp only [Act.put, q1_, q2_, q3_]))
    | ((with_reducible show wpList _ _ _ (⟨_, .alloc _, _, _, _, _⟩ :: _) _ _); refine H.xa ?_; (intro g w H; simp only [Act.put, q1_, q2_, q3_]))
    | ((with_reducible show wpList _ _ _ (⟨_, .load _ _, _, _, _, _⟩ :: _) _ _); (first | refine H.xl ?_ | refine H.xm ?_); simp only [Act.put, q1_, q2_, q3_])
    | ((with_reducible show wpList _ _ _ (⟨_, .store _ _ _, _, _, _, _⟩ :: _) _ _); (first | refine H.xs ?_ | refine H.xt ?_); (intro w H; simp only [Act.put]))
    | (go_at_call 152; ((with_reducible refine (cA _).mono ?_); rintro e w ⟨rfl, hb⟩; replace H := H.call hb; clear hb))
    )
      go_ret
      exact ⟨rfl, H.below⟩
open Go.RowKit
theorem set_lowR (V k : Nat) (hk : k < 6) : setRow (limbs (V % 2 ^ (64 * k))) k (#[.int .u64 (limb V k)] : Array Value).toList = limbs (V % 2 ^ (64 * (k + 1))) := by
  rw [mod_low]; exact limbs_put _ _ k hk (Nat.mod_lt _ (pw_pos k)) (limbN_lt V k)
theorem add_word (a b k : Nat) : addW (limb a k) (limb b k) (cbit a b k) = limb (a + b) k := by
  unfold limb
  rw [addW_nat]
  have h := sum_step a b k
  rw [mod_low] at h
  have := Nat.add_left_cancel h
  have := Nat.eq_of_mul_eq_mul_right (pw_pos k) this
  rw [this]
theorem car_word (a b k : Nat) : carW (limb a k) (limb b k) (cbit a b k) = cbit a b (k + 1) := by
  unfold limb
  rw [carW_nat, cbit_step]
theorem r2Of_any (x : Nat) (w : World) (hx : x < 18446744073709551616) :
    Calls Tryz.prog 172 #[.int .u64 x] w fun e w' => e = .returned (W x) ∧ Below w.heap.size w w' := by
  have H := Own.start w
  have HR := Lib.hid (show W (limbN x 0) = W x by rw [show limbN x 0 = x by unfold limbN; rw [Nat.mul_zero, Nat.pow_zero, Nat.div_one, Nat.mod_eq_of_lt hx]])
  have hl : (x : Int) = limb x 0 := by unfold limb limbN; rw [Nat.mul_zero, Nat.pow_zero, Nat.div_one, Nat.mod_eq_of_lt hx]
  rw [hl]
  clear hx hl
  go_enter Tryz.func172, Tryz.ntmps172
  exact walk3
set_option maxHeartbeats 3200000 in
theorem r2Add_any (a b : Nat) (w0 : World) :
    Calls Tryz.prog 222 #[W a, W b] w0 fun e w' => e = .returned (.tuple #[W (a + b), .bool (cbit a b 6)]) ∧ Below w0.heap.size w0 w' := by
  have H := Own.start w0
  go_enter Tryz.func222, Tryz.ntmps222
  go_wp2_with (first
    | ((with_reducible show wpList _ _ _ (⟨some 2, .box _ _, _, _, _, _⟩ :: _) _ _); refine H.xb ?_; (intro ga w H; simp only [Act.put, q1_, q2_, q3_]))
    | ((with_reducible show wpList _ _ _ (⟨some 3, .box _ _, _, _, _, _⟩ :: _) _ _); refine H.xb ?_; (intro gb w H; simp only [Act.put, q1_, q2_, q3_]))
    | ((with_reducible show wpList _ _ _ (⟨some 4, .alloc 63, _, _, _, _⟩ :: _) _ _); refine H.xa ?_; (intro gr w H; simp only [Act.put, q1_, q2_, q3_]))
    | ((with_reducible show wpList _ _ _ (⟨some 6, .alloc 63, _, _, _, _⟩ :: _) _ _); refine H.xa ?_; (intro gs w H; simp only [Act.put, q1_, q2_, q3_]))
    | ((with_reducible show wpList _ _ _ (⟨_, .box _ _, _, _, _, _⟩ :: _) _ _); refine H.xb ?_; (intro g w H; simp only [Act.put, q1_, q2_, q3_]))
    | ((with_reducible show wpList _ _ _ (⟨_, .alloc _, _, _, _, _⟩ :: _) _ _); refine H.xa ?_; (intro g w H; simp only [Act.put, q1_, q2_, q3_]))
    | ((with_reducible show wpList _ _ _ (⟨_, .load _ _, _, _, _, _⟩ :: _) _ _); (first | refine H.xl ?_ | refine H.xm ?_); simp only [Act.put, q1_, q2_, q3_])
    | ((with_reducible show wpList _ _ _ (⟨_, .store _ _ _, _, _, _, _⟩ :: _) _ _); (first | refine H.xs ?_ | refine H.xt ?_); (intro w H; simp only [Act.put]))
    | (go_at_call 235; ((with_reducible refine (cS _).mono ?_); rintro e w ⟨rfl, hb⟩; replace H := H.call hb; clear hb))
    )
  go_loopw [7, 8] (fun cv iv wr => ∃ (k : Nat), k ≤ 6 ∧ iv = .int .i64 k ∧ cv = .bool (cbit a b k) ∧ Own w0 wr [(gs, 63, limbs ((a + b) % 2 ^ (64 * k))), (gr, 63, limbs 0), (gb, 63, limbs b), (ga, 63, limbs a)]) (fun _ i _ => 6 - (intOf i).toNat)
  case atStart => exact ⟨0, by omega, rfl, by rw [cbit_zero], by rw [Nat.mul_zero, Nat.pow_zero, Nat.mod_one]; exact H⟩
  case round =>
    clear H
    obtain ⟨k, hk, rfl, rfl, H⟩ := hrel
    by_cases hlt : k < 6
    · have hlti : (k : Int) < 6 := by omega
      have G1 : (limbs a)[k]? = some (.int .u64 (limb a k)) := limbs_get a k hlt
      have G2 : (limbs b)[k]? = some (.int .u64 (limb b k)) := limbs_get b k hlt
      have cS := fun w => r1Add_any (limb a k) (limb b k) (cbit a b k) w (limb_w a k) (limb_w b k)
      rw [add_word, car_word] at cS
      go_wp2_with (first
    | ((with_reducible show wpList _ _ _ (⟨some 2, .box _ _, _, _, _, _⟩ :: _) _ _); refine H.xb ?_; (intro ga w H; simp only [Act.put, q1_, q2_, q3_]))
    | ((with_reducible show wpList _ _ _ (⟨some 3, .box _ _, _, _, _, _⟩ :: _) _ _); refine H.xb ?_; (intro gb w H; simp only [Act.put, q1_, q2_, q3_]))
    | ((with_reducible show wpList _ _ _ (⟨some 4, .alloc 63, _, _, _, _⟩ :: _) _ _); refine H.xa ?_; (intro gr w H; simp only [Act.put, q1_, q2_, q3_]))
    | ((with_reducible show wpList _ _ _ (⟨some 6, .alloc 63, _, _, _, _⟩ :: _) _ _); refine H.xa ?_; (intro gs w H; simp only [Act.put, q1_, q2_, q3_]))
    | ((with_reducible show wpList _ _ _ (⟨_, .load 25 _, _, _, _, _⟩ :: _) _ _); refine H.xm ?_ (hv := by first | with_reducible exact G1 | with_reducible exact G2); simp only [Act.put, q1_, q2_, q3_])
    | ((with_reducible show wpList _ _ _ (⟨_, .store 25 _ _, _, _, _, _⟩ :: _) _ _); refine H.xt ?_ (hv := set_lowR _ _ hlt); (intro w H; simp only [Act.put]))
    | ((with_reducible show wpList _ _ _ (⟨_, .box _ _, _, _, _, _⟩ :: _) _ _); refine H.xb ?_; (intro g w H; simp only [Act.put, q1_, q2_, q3_]))
    | ((with_reducible show wpList _ _ _ (⟨_, .alloc _, _, _, _, _⟩ :: _) _ _); refine H.xa ?_; (intro g w H; simp only [Act.put, q1_, q2_, q3_]))
    | ((with_reducible show wpList _ _ _ (⟨_, .load _ _, _, _, _, _⟩ :: _) _ _); (first | refine H.xl ?_ | refine H.xm ?_); simp only [Act.put, q1_, q2_, q3_])
    | ((with_reducible show wpList _ _ _ (⟨_, .store _ _ _, _, _, _, _⟩ :: _) _ _); (first | refine H.xs ?_ | refine H.xt ?_); (intro w H; simp only [Act.put]))
    | ((with_reducible show Code.wp _ (.region 6 _ true) _ _ _); refine H.heldSub rfl (List.Sublist.refl _) ?_; intro H; refine H.zr 0 ?_; (try simp only [Act.put, q1_, q2_, q3_]); (try simp only [q4_, q5_, q6_]); refine H.zr 1 ?_; (try simp only [Act.put, q1_, q2_, q3_]); (try simp only [q4_, q5_, q6_]); (first | refine H.zm 2 ?_ (hv := by first | with_reducible exact G1 | with_reducible exact G2) | refine H.zl 2 ?_ | refine H.zm 2 ?_); (try simp only [Act.put, q1_, q2_, q3_]); (try simp only [q4_, q5_, q6_]); refine H.zr 3 ?_; (try simp only [Act.put, q1_, q2_, q3_]); (try simp only [q4_, q5_, q6_]); refine H.zr 4 ?_; (try simp only [Act.put, q1_, q2_, q3_]); (try simp only [q4_, q5_, q6_]); (first | refine H.zm 5 ?_ (hv := by first | with_reducible exact G1 | with_reducible exact G2) | refine H.zl 5 ?_ | refine H.zm 5 ?_); (try simp only [Act.put, q1_, q2_, q3_]); (try simp only [q4_, q5_, q6_]); refine H.zr 6 ?_; (try simp only [Act.put, q1_, q2_, q3_]); (try simp only [q4_, q5_, q6_]); refine held1 7 ?_; unfold Oper.wp; go_simp; (go_at_call 235; ((with_reducible refine (cS _).mono ?_); rintro e w ⟨rfl, hb⟩; replace H := H.call hb; clear hb)); refine H.nx ?_; (try simp only [Act.put, q1_, q2_, q3_]); (try simp only [q4_, q5_, q6_]); refine H.zr 8 ?_; (try simp only [Act.put, q1_, q2_, q3_]); (try simp only [q4_, q5_, q6_]); refine H.zr 9 ?_; (try simp only [Act.put, q1_, q2_, q3_]); (try simp only [q4_, q5_, q6_]); refine H.zr 10 ?_; (try simp only [Act.put, q1_, q2_, q3_]); (try simp only [q4_, q5_, q6_]); refine H.zr 11 ?_; (try simp only [Act.put, q1_, q2_, q3_]); (try simp only [q4_, q5_, q6_]); refine H.zr 12 ?_; (try simp only [Act.put, q1_, q2_, q3_]); (try simp only [q4_, q5_, q6_]); refine wpAnyH_done (by kernel_rfl) ?_ _)
    | (go_at_call 235; ((with_reducible refine (cS _).mono ?_); rintro e w ⟨rfl, hb⟩; replace H := H.call hb; clear hb))
    )
      all_goals
        go_roundw
        case rel => exact ⟨k + 1, by omega, by go_num, rfl, H⟩
        case measure => simp [intOf] <;> omega
    · obtain rfl : k = 6 := by omega
      rw [← top6.eq_1, limbs_mod] at H
      clear hlt hk
      go_wp2_with (first
    | ((with_reducible show wpList _ _ _ (⟨some 2, .box _ _, _, _, _, _⟩ :: _) _ _); refine H.xb ?_; (intro ga w H; simp only [Act.put, q1_, q2_, q3_]))
    | ((with_reducible show wpList _ _ _ (⟨some 3, .box _ _, _, _, _, _⟩ :: _) _ _); refine H.xb ?_; (intro gb w H; simp only [Act.put, q1_, q2_, q3_]))
    | ((with_reducible show wpList _ _ _ (⟨some 4, .alloc 63, _, _, _, _⟩ :: _) _ _); refine H.xa ?_; (intro gr w H; simp only [Act.put, q1_, q2_, q3_]))
    | ((with_reducible show wpList _ _ _ (⟨some 6, .alloc 63, _, _, _, _⟩ :: _) _ _); refine H.xa ?_; (intro gs w H; simp only [Act.put, q1_, q2_, q3_]))
    | ((with_reducible show wpList _ _ _ (⟨_, .box _ _, _, _, _, _⟩ :: _) _ _); refine H.xb ?_; (intro g w H; simp only [Act.put, q1_, q2_, q3_]))
    | ((with_reducible show wpList _ _ _ (⟨_, .alloc _, _, _, _, _⟩ :: _) _ _); refine H.xa ?_; (intro g w H; simp only [Act.put, q1_, q2_, q3_]))
    | ((with_reducible show wpList _ _ _ (⟨_, .load _ _, _, _, _, _⟩ :: _) _ _); (first | refine H.xl ?_ | refine H.xm ?_); simp only [Act.put, q1_, q2_, q3_])
    | ((with_reducible show wpList _ _ _ (⟨_, .store _ _ _, _, _, _, _⟩ :: _) _ _); (first | refine H.xs ?_ | refine H.xt ?_); (intro w H; simp only [Act.put]))
    | (go_at_call 235; ((with_reducible refine (cS _).mono ?_); rintro e w ⟨rfl, hb⟩; replace H := H.call hb; clear hb))
    )
      refine bodyPost_ret (results_ct rfl rfl (H.res rW v3_ (ext_limbs _) (by rfl))) rfl ⟨?_, H.below⟩
      rfl
set_option maxHeartbeats 3200000 in
theorem r2Left_any (a : Nat) (x : Int) (w0 : World) (ha : a < top6) :
    Calls Tryz.prog 171 #[W a, .int .i64 x] w0 fun e w' => e = .returned (.tuple #[W (a * 2 ^ clip x), .bool (decide (top6 ≤ a * 2 ^ clip x))]) ∧ Below w0.heap.size w0 w' := by
  have H := Own.start w0
  have cC := fun w => r2Count_any x w
  obtain ⟨n, hn⟩ : ∃ n, clip x = n := ⟨_, rfl⟩
  have hn4 : n ≤ 384 := by unfold clip at hn; omega
  rw [hn] at cC ⊢
  clear hn
  have HA := Lib.hid ha
  clear ha
  go_enter Tryz.func171, Tryz.ntmps171
  go_wp2_with (first
    | ((with_reducible show wpList _ _ _ (⟨some 2, .box _ _, _, _, _, _⟩ :: _) _ _); refine H.xb ?_; (intro ga w H; simp only [Act.put, q1_, q2_, q3_]))
    | ((with_reducible show wpList _ _ _ (⟨some 4, .alloc 63, _, _, _, _⟩ :: _) _ _); refine H.xa ?_; (intro gr w H; simp only [Act.put, q1_, q2_, q3_]))
    | ((with_reducible show wpList _ _ _ (⟨some 6, .alloc 63, _, _, _, _⟩ :: _) _ _); refine H.xa ?_; (intro gb w H; simp only [Act.put, q1_, q2_, q3_]))
    | ((with_reducible show wpList _ _ _ (⟨_, .box _ _, _, _, _, _⟩ :: _) _ _); refine H.xb ?_; (intro g w H; simp only [Act.put, q1_, q2_, q3_]))
    | ((with_reducible show wpList _ _ _ (⟨_, .alloc _, _, _, _, _⟩ :: _) _ _); refine H.xa ?_; (intro g w H; simp only [Act.put, q1_, q2_, q3_]))
    | ((with_reducible show wpList _ _ _ (⟨_, .load _ _, _, _, _, _⟩ :: _) _ _); (first | refine H.xl ?_ | refine H.xm ?_); simp only [Act.put, q1_, q2_, q3_])
    | ((with_reducible show wpList _ _ _ (⟨_, .store _ _ _, _, _, _, _⟩ :: _) _ _); (first | refine H.xs ?_ | refine H.xt ?_); (intro w H; simp only [Act.put]))
    | (go_at_call 221; ((with_reducible refine (cC _).mono ?_); rintro e w ⟨rfl, hb⟩; replace H := H.call hb; clear hb))
    | (go_at_call 202; ((with_reducible refine (cB _).mono ?_); rintro e w ⟨rfl, hb⟩; replace H := H.call hb; clear hb))
    )
  go_loopw [7, 8] (fun l i wr => ∃ (k : Nat), k ≤ 384 ∧ i = .int .i64 k ∧ l = .bool (lostLi a n k) ∧ Own w0 wr [(gb, 63, limbs (leftV a n k)), (gr, 63, limbs 0), (ga, 63, limbs a)]) (fun _ i _ => 384 - (intOf i).toNat)
  case atStart => exact ⟨0, by omega, rfl, by rw [lostLi_lo a n 0 (by omega)], by rw [leftV_zero]; exact H⟩
  case round =>
    clear H
    obtain ⟨k, hk, rfl, rfl, H⟩ := hrel
    by_cases hlt : k < 384
    · have hlti : (k : Int) < 384 := by omega
      have cB := fun w => r2Bit_any a k w hlt
      cases hb : a.testBit k
      · rw [hb] at cB
        have h1 := Lib.hid (lostLi_f a n k hb)
        have h2 := Lib.hid (leftV_f a n k hb)
        clear hb cC
        go_wp2_with (first
    | ((with_reducible show wpList _ _ _ (⟨some 2, .box _ _, _, _, _, _⟩ :: _) _ _); refine H.xb ?_; (intro ga w H; simp only [Act.put, q1_, q2_, q3_]))
    | ((with_reducible show wpList _ _ _ (⟨some 4, .alloc 63, _, _, _, _⟩ :: _) _ _); refine H.xa ?_; (intro gr w H; simp only [Act.put, q1_, q2_, q3_]))
    | ((with_reducible show wpList _ _ _ (⟨some 6, .alloc 63, _, _, _, _⟩ :: _) _ _); refine H.xa ?_; (intro gb w H; simp only [Act.put, q1_, q2_, q3_]))
    | ((with_reducible show wpList _ _ _ (⟨_, .box _ _, _, _, _, _⟩ :: _) _ _); refine H.xb ?_; (intro g w H; simp only [Act.put, q1_, q2_, q3_]))
    | ((with_reducible show wpList _ _ _ (⟨_, .alloc _, _, _, _, _⟩ :: _) _ _); refine H.xa ?_; (intro g w H; simp only [Act.put, q1_, q2_, q3_]))
    | ((with_reducible show wpList _ _ _ (⟨_, .load _ _, _, _, _, _⟩ :: _) _ _); (first | refine H.xl ?_ | refine H.xm ?_); simp only [Act.put, q1_, q2_, q3_])
    | ((with_reducible show wpList _ _ _ (⟨_, .store _ _ _, _, _, _, _⟩ :: _) _ _); (first | refine H.xs ?_ | refine H.xt ?_); (intro w H; simp only [Act.put]))
    | (go_at_call 221; ((with_reducible refine (cC _).mono ?_); rintro e w ⟨rfl, hb⟩; replace H := H.call hb; clear hb))
    | (go_at_call 202; ((with_reducible refine (cB _).mono ?_); rintro e w ⟨rfl, hb⟩; replace H := H.call hb; clear hb))
    )
        all_goals
          go_roundw
          case rel => exact ⟨k + 1, by omega, by go_num, by rw [h1.out], by rw [h2.out]; exact H⟩
          case measure => simp [intOf] <;> omega
      · rw [hb] at cB
        by_cases hnk : k + n < 384
        · have h1 := Lib.hid (show lostLi a n (k + 1) = lostLi a n k by rw [lostLi_lo a n (k + 1) (by omega), lostLi_lo a n k (by omega)])
          have h2 := Lib.hid (leftV_t a n k hb hnk).1
          have h3 := Lib.hid (leftV_t a n k hb hnk).2
          obtain ⟨j, hj⟩ : ∃ j, k + n = j := ⟨_, rfl⟩
          have e0 : (k : Int) + (n : Int) = (j : Int) := by omega
          have e1 : IntKind.i64.wrap ((k : Int) + (n : Int)) = (j : Int) := by rw [e0]; exact IntWalk.i64_in _ (by omega)
          have hge : (j : Int) < 384 := by omega
          have hge2 : (k : Int) + (n : Int) < 384 := by omega
          obtain ⟨qi, hqi⟩ : ∃ qi : Nat, (j : Int) / 64 = qi := ⟨j / 64, by omega⟩
          obtain ⟨sh, hsh⟩ : ∃ sh : Nat, (j : Int) % 64 = sh := ⟨j % 64, by omega⟩
          have HM := Lib.hid (show j = 64 * qi + sh by omega)
          have hs64 : sh < 64 := by omega
          have hq6 : qi < 6 := by omega
          have hq6i : (qi : Int) < 6 := by omega
          have t1 : IntKind.i64.wrap ((j : Int).tdiv 64) = (qi : Int) := by rw [Int.tdiv_eq_ediv_of_nonneg (by omega), hqi]; exact IntWalk.i64_in _ (by omega)
          have t2 : (j : Int).tmod 64 = (sh : Int) := by rw [Int.tmod_eq_emod_of_nonneg (by omega), hsh]
          have t3 : IntKind.u64.wrap (sh : Int) = (sh : Int) := by rw [IntKind.wrap_u64]; omega
          have t4 : min sh 64 = sh := by omega
          rw [hj] at h2 h3
          obtain ⟨V, hV⟩ : ∃ V, leftV a n k = V := ⟨_, rfl⟩
          rw [hV] at H h2 h3
          have G : (limbs V)[qi]? = some (.int .u64 (limb V qi)) := limbs_get V qi hq6
          clear hV cC hb hj hnk
          go_wp2_with (first
    | ((with_reducible show wpList _ _ _ (⟨some 2, .box _ _, _, _, _, _⟩ :: _) _ _); refine H.xb ?_; (intro ga w H; simp only [Act.put, q1_, q2_, q3_]))
    | ((with_reducible show wpList _ _ _ (⟨some 4, .alloc 63, _, _, _, _⟩ :: _) _ _); refine H.xa ?_; (intro gr w H; simp only [Act.put, q1_, q2_, q3_]))
    | ((with_reducible show wpList _ _ _ (⟨some 6, .alloc 63, _, _, _, _⟩ :: _) _ _); refine H.xa ?_; (intro gb w H; simp only [Act.put, q1_, q2_, q3_]))
    | ((with_reducible show wpList _ _ _ (⟨_, .load 25 _, _, _, _, _⟩ :: _) _ _); refine H.xm ?_ (hv := by first | with_reducible exact G); simp only [Act.put, q1_, q2_, q3_])
    | ((with_reducible show wpList _ _ _ (⟨_, .store 25 _ _, _, _, _, _⟩ :: _) _ _); refine H.xt ?_ (hv := set_bit_at _ _ _ _ h3.out HM.out hs64 hq6); (intro w H; simp only [Act.put]))
    | ((with_reducible show wpList _ _ _ (⟨_, .box _ _, _, _, _, _⟩ :: _) _ _); refine H.xb ?_; (intro g w H; simp only [Act.put, q1_, q2_, q3_]))
    | ((with_reducible show wpList _ _ _ (⟨_, .alloc _, _, _, _, _⟩ :: _) _ _); refine H.xa ?_; (intro g w H; simp only [Act.put, q1_, q2_, q3_]))
    | ((with_reducible show wpList _ _ _ (⟨_, .load _ _, _, _, _, _⟩ :: _) _ _); (first | refine H.xl ?_ | refine H.xm ?_); simp only [Act.put, q1_, q2_, q3_])
    | ((with_reducible show wpList _ _ _ (⟨_, .store _ _ _, _, _, _, _⟩ :: _) _ _); (first | refine H.xs ?_ | refine H.xt ?_); (intro w H; simp only [Act.put]))
    | (go_at_call 221; ((with_reducible refine (cC _).mono ?_); rintro e w ⟨rfl, hb⟩; replace H := H.call hb; clear hb))
    | (go_at_call 202; ((with_reducible refine (cB _).mono ?_); rintro e w ⟨rfl, hb⟩; replace H := H.call hb; clear hb))
    )
          all_goals
            go_roundw
            case rel => exact ⟨k + 1, by omega, by go_num, by rw [h1.out], by rw [h2.out]; exact H⟩
            case measure => simp [intOf] <;> omega
        · have h1 := Lib.hid (lostLi_t a n k hb (by omega))
          have h2 := Lib.hid (leftV_o a n k hb (by omega))
          have hge : 384 ≤ (k : Int) + (n : Int) := by omega
          clear cC hb hnk
          go_wp2_with (first
    | ((with_reducible show wpList _ _ _ (⟨some 2, .box _ _, _, _, _, _⟩ :: _) _ _); refine H.xb ?_; (intro ga w H; simp only [Act.put, q1_, q2_, q3_]))
    | ((with_reducible show wpList _ _ _ (⟨some 4, .alloc 63, _, _, _, _⟩ :: _) _ _); refine H.xa ?_; (intro gr w H; simp only [Act.put, q1_, q2_, q3_]))
    | ((with_reducible show wpList _ _ _ (⟨some 6, .alloc 63, _, _, _, _⟩ :: _) _ _); refine H.xa ?_; (intro gb w H; simp only [Act.put, q1_, q2_, q3_]))
    | ((with_reducible show wpList _ _ _ (⟨_, .box _ _, _, _, _, _⟩ :: _) _ _); refine H.xb ?_; (intro g w H; simp only [Act.put, q1_, q2_, q3_]))
    | ((with_reducible show wpList _ _ _ (⟨_, .alloc _, _, _, _, _⟩ :: _) _ _); refine H.xa ?_; (intro g w H; simp only [Act.put, q1_, q2_, q3_]))
    | ((with_reducible show wpList _ _ _ (⟨_, .load _ _, _, _, _, _⟩ :: _) _ _); (first | refine H.xl ?_ | refine H.xm ?_); simp only [Act.put, q1_, q2_, q3_])
    | ((with_reducible show wpList _ _ _ (⟨_, .store _ _ _, _, _, _, _⟩ :: _) _ _); (first | refine H.xs ?_ | refine H.xt ?_); (intro w H; simp only [Act.put]))
    | (go_at_call 221; ((with_reducible refine (cC _).mono ?_); rintro e w ⟨rfl, hb⟩; replace H := H.call hb; clear hb))
    | (go_at_call 202; ((with_reducible refine (cB _).mono ?_); rintro e w ⟨rfl, hb⟩; replace H := H.call hb; clear hb))
    )
          all_goals
            go_roundw
            case rel => exact ⟨k + 1, by omega, by go_num, by rw [h1.out], by rw [h2.out]; exact H⟩
            case measure => simp [intOf] <;> omega
    · have hk384 : k = 384 := by omega
      have h1 := Lib.hid (lostLi_all a n k hk384 HA.out hn4)
      rw [leftV_all a n k hk384 HA.out, limbs_mod] at H
      generalize lostLi a n k = l at *
      subst hk384
      clear cC hlt hk
      go_wp2_with (first
    | ((with_reducible show wpList _ _ _ (⟨some 2, .box _ _, _, _, _, _⟩ :: _) _ _); refine H.xb ?_; (intro ga w H; simp only [Act.put, q1_, q2_, q3_]))
    | ((with_reducible show wpList _ _ _ (⟨some 4, .alloc 63, _, _, _, _⟩ :: _) _ _); refine H.xa ?_; (intro gr w H; simp only [Act.put, q1_, q2_, q3_]))
    | ((with_reducible show wpList _ _ _ (⟨some 6, .alloc 63, _, _, _, _⟩ :: _) _ _); refine H.xa ?_; (intro gb w H; simp only [Act.put, q1_, q2_, q3_]))
    | ((with_reducible show wpList _ _ _ (⟨_, .box _ _, _, _, _, _⟩ :: _) _ _); refine H.xb ?_; (intro g w H; simp only [Act.put, q1_, q2_, q3_]))
    | ((with_reducible show wpList _ _ _ (⟨_, .alloc _, _, _, _, _⟩ :: _) _ _); refine H.xa ?_; (intro g w H; simp only [Act.put, q1_, q2_, q3_]))
    | ((with_reducible show wpList _ _ _ (⟨_, .load _ _, _, _, _, _⟩ :: _) _ _); (first | refine H.xl ?_ | refine H.xm ?_); simp only [Act.put, q1_, q2_, q3_])
    | ((with_reducible show wpList _ _ _ (⟨_, .store _ _ _, _, _, _, _⟩ :: _) _ _); (first | refine H.xs ?_ | refine H.xt ?_); (intro w H; simp only [Act.put]))
    | (go_at_call 221; ((with_reducible refine (cC _).mono ?_); rintro e w ⟨rfl, hb⟩; replace H := H.call hb; clear hb))
    | (go_at_call 202; ((with_reducible refine (cB _).mono ?_); rintro e w ⟨rfl, hb⟩; replace H := H.call hb; clear hb))
    )
      refine bodyPost_ret (results_ct rfl rfl (H.res rW v3_ (ext_limbs _) (by rfl))) rfl ⟨?_, H.below⟩
      rw [h1.out]; rfl
set_option maxHeartbeats 3200000 in
theorem r2Len_any (a : Nat) (w0 : World) (ha : a < top6) :
    Calls Tryz.prog 138 #[W a] w0 fun e w' => e = .returned (.int .i64 (lenN a : Nat)) ∧ Below w0.heap.size w0 w' := by
  have H := Own.start w0
  have HA := Lib.hid ha
  clear ha
  go_enter Tryz.func138, Tryz.ntmps138
  go_wp2_with (first
    | ((with_reducible show wpList _ _ _ (⟨some 1, .box _ _, _, _, _, _⟩ :: _) _ _); refine H.xb ?_; (intro ga w H; simp only [Act.put, q1_, q2_, q3_]))
    | ((with_reducible show wpList _ _ _ (⟨_, .box _ _, _, _, _, _⟩ :: _) _ _); refine H.xb ?_; (intro g w H; simp only [Act.put, q1_, q2_, q3_]))
    | ((with_reducible show wpList _ _ _ (⟨_, .alloc _, _, _, _, _⟩ :: _) _ _); refine H.xa ?_; (intro g w H; simp only [Act.put, q1_, q2_, q3_]))
    | ((with_reducible show wpList _ _ _ (⟨_, .load _ _, _, _, _, _⟩ :: _) _ _); (first | refine H.xl ?_ | refine H.xm ?_); simp only [Act.put, q1_, q2_, q3_])
    | ((with_reducible show wpList _ _ _ (⟨_, .store _ _ _, _, _, _, _⟩ :: _) _ _); (first | refine H.xs ?_ | refine H.xt ?_); (intro w H; simp only [Act.put]))
    | (go_at_call 201; ((with_reducible refine (cL _).mono ?_); rintro e w ⟨rfl, hb⟩; replace H := H.call hb; clear hb))
    )
  go_loopw [3] (fun i wr => ∃ (k : Nat) (e : Int), e + 1 = k ∧ k ≤ 6 ∧ i = .int .i64 e ∧ Hid (a < 2 ^ (64 * k)) ∧ Own w0 wr [(ga, 63, limbs a)]) (fun i _ => (intOf i + 1).toNat)
  case atStart => exact ⟨6, 5, by omega, by omega, rfl, Lib.hid (by rw [← top6.eq_1]; exact HA.out), H⟩
  case round =>
    clear H
    obtain ⟨k, e, hke, hk, rfl, hT, H⟩ := hrel
    by_cases h0 : k = 0
    · subst h0
      obtain rfl : e = -1 := by omega
      have hz : a = 0 := by have := hT.out; rw [Nat.mul_zero, Nat.pow_zero] at this; omega
      subst hz
      go_wp2_with (first
    | ((with_reducible show wpList _ _ _ (⟨some 1, .box _ _, _, _, _, _⟩ :: _) _ _); refine H.xb ?_; (intro ga w H; simp only [Act.put, q1_, q2_, q3_]))
    | ((with_reducible show wpList _ _ _ (⟨_, .box _ _, _, _, _, _⟩ :: _) _ _); refine H.xb ?_; (intro g w H; simp only [Act.put, q1_, q2_, q3_]))
    | ((with_reducible show wpList _ _ _ (⟨_, .alloc _, _, _, _, _⟩ :: _) _ _); refine H.xa ?_; (intro g w H; simp only [Act.put, q1_, q2_, q3_]))
    | ((with_reducible show wpList _ _ _ (⟨_, .load _ _, _, _, _, _⟩ :: _) _ _); (first | refine H.xl ?_ | refine H.xm ?_); simp only [Act.put, q1_, q2_, q3_])
    | ((with_reducible show wpList _ _ _ (⟨_, .store _ _ _, _, _, _, _⟩ :: _) _ _); (first | refine H.xs ?_ | refine H.xt ?_); (intro w H; simp only [Act.put]))
    | (go_at_call 201; ((with_reducible refine (cL _).mono ?_); rintro e w ⟨rfl, hb⟩; replace H := H.call hb; clear hb))
    )
      go_ret
      exact ⟨rfl, H.below⟩
    · obtain ⟨m, rfl⟩ : ∃ m, k = m + 1 := ⟨k - 1, by omega⟩
      obtain rfl : e = (m : Int) := by omega
      have hm : m < 6 := by omega
      have hmi : (m : Int) < 6 := by omega
      have hm0 : (0 : Int) ≤ (m : Int) := by omega
      have G : (limbs a)[m]? = some (.int .u64 (limb a m)) := limbs_get a m hm
      by_cases hz : limbN a m = 0
      · have h1 := Lib.hid (top_zero a m hT.out hz)
        have z : limb a m = 0 := by unfold limb; rw [hz]; rfl
        rw [z] at G
        clear hT hz h0
        go_wp2_with (first
    | ((with_reducible show wpList _ _ _ (⟨some 1, .box _ _, _, _, _, _⟩ :: _) _ _); refine H.xb ?_; (intro ga w H; simp only [Act.put, q1_, q2_, q3_]))
    | ((with_reducible show wpList _ _ _ (⟨_, .load 25 _, _, _, _, _⟩ :: _) _ _); refine H.xm ?_ (hv := by first | with_reducible exact G); simp only [Act.put, q1_, q2_, q3_])
    | ((with_reducible show wpList _ _ _ (⟨_, .box _ _, _, _, _, _⟩ :: _) _ _); refine H.xb ?_; (intro g w H; simp only [Act.put, q1_, q2_, q3_]))
    | ((with_reducible show wpList _ _ _ (⟨_, .alloc _, _, _, _, _⟩ :: _) _ _); refine H.xa ?_; (intro g w H; simp only [Act.put, q1_, q2_, q3_]))
    | ((with_reducible show wpList _ _ _ (⟨_, .load _ _, _, _, _, _⟩ :: _) _ _); (first | refine H.xl ?_ | refine H.xm ?_); simp only [Act.put, q1_, q2_, q3_])
    | ((with_reducible show wpList _ _ _ (⟨_, .store _ _ _, _, _, _, _⟩ :: _) _ _); (first | refine H.xs ?_ | refine H.xt ?_); (intro w H; simp only [Act.put]))
    | (go_at_call 201; ((with_reducible refine (cL _).mono ?_); rintro e w ⟨rfl, hb⟩; replace H := H.call hb; clear hb))
    )
        all_goals
          go_roundw
          case rel => exact ⟨m, (m : Int) - 1, by omega, by omega, by go_num, h1, H⟩
          case measure => simp [intOf] <;> omega
      · have h1 := Lib.hid (lenN_top a m hT.out hz)
        have cL := fun w => r1Len_any (limbN a m) w (limbN_lt a m)
        have hl : ((limbN a m : Nat) : Int) = limb a m := rfl
        rw [hl] at cL
        have z : (limb a m != 0) = true := by unfold limb; simpa using hz
        have hb : lenN (limbN a m) ≤ 64 := (lenN_le _ _).2 (by rw [← B64]; exact limbN_lt a m)
        generalize lenN (limbN a m) = l at *
        clear hT hz h0 hl
        go_wp2_with (first
    | ((with_reducible show wpList _ _ _ (⟨some 1, .box _ _, _, _, _, _⟩ :: _) _ _); refine H.xb ?_; (intro ga w H; simp only [Act.put, q1_, q2_, q3_]))
    | ((with_reducible show wpList _ _ _ (⟨_, .load 25 _, _, _, _, _⟩ :: _) _ _); refine H.xm ?_ (hv := by first | with_reducible exact G); simp only [Act.put, q1_, q2_, q3_])
    | ((with_reducible show wpList _ _ _ (⟨_, .box _ _, _, _, _, _⟩ :: _) _ _); refine H.xb ?_; (intro g w H; simp only [Act.put, q1_, q2_, q3_]))
    | ((with_reducible show wpList _ _ _ (⟨_, .alloc _, _, _, _, _⟩ :: _) _ _); refine H.xa ?_; (intro g w H; simp only [Act.put, q1_, q2_, q3_]))
    | ((with_reducible show wpList _ _ _ (⟨_, .load _ _, _, _, _, _⟩ :: _) _ _); (first | refine H.xl ?_ | refine H.xm ?_); simp only [Act.put, q1_, q2_, q3_])
    | ((with_reducible show wpList _ _ _ (⟨_, .store _ _ _, _, _, _, _⟩ :: _) _ _); (first | refine H.xs ?_ | refine H.xt ?_); (intro w H; simp only [Act.put]))
    | (go_at_call 201; ((with_reducible refine (cL _).mono ?_); rintro e w ⟨rfl, hb⟩; replace H := H.call hb; clear hb))
    )
        go_ret
        exact ⟨by rw [h1.out]; first | rfl | go_num, H.below⟩
open Go.RowKit
section
variable {P : Program} {w : World} {op : Oper} {a : Act} {Q : Exit → Act → World → Prop} {ops : Array Oper} {rest : List Oper}
theorem run_build {t : TypeId} {n : Nat} {z : Array Value} {fs : Array Field} {places : Array (Nat × Nat)} (R : IsRow P t n z) (hu : P.underlying t = some (.struct fs))
    (hp : (fs.mapM fun f => do pure (f.offset, ← sizeOf f.type) : Sem (Array (Nat × Nat))).run P w = .ok places w) (ps : Array (Nat × Value)) (cs : Array Value) (hf : Instr.fill (places[·]?) z ps.toList = some cs) :
    (Instr.build t ps).run P w = .ok (.agg cs) w := by
  have hz := run_zeroValue R.zero w
  unfold Instr.build
  simp only [Sem.run_bind, hz, Result.andThen_ok, run_underlying hu, hp, Value.cells, hf]
  rfl
theorem fill_step (place : Nat → Option (Nat × Nat)) (cells : Array Value) (i off size : Nat) (v : Value) (rest : List (Nat × Value)) (hp : place i = some (off, size)) (h1 : v.cells.size = size) (h2 : off + size ≤ cells.size) :
    Instr.fill place cells ((i, v) :: rest) = Instr.fill place (setRow cells off v.cells.toList) rest := by
  rw [Instr.fill]
  simp only [hp]
  rw [if_neg (by simp [h1]; omega), foldl_cells]
theorem wp_bld {t : TypeId} {ps : Array (Nat × Operand)} (hw : Region.wanted op (yielded ops a.tmps) = true) (ho : op.op = .build t ps) {vs : Array (Nat × Value)} (hvs : (ps.map fun (i, x) => (i, a.eval x)) = vs) {v : Value}
    (hv : ∀ w, (Instr.build t vs).run P w = .ok v w) (h : wpList P ops Q rest (a.put op.dst v) w) : wpList P ops Q (op :: rest) a w := by
  refine wp_wanted hw fun K hK => ?_
  subst hvs
  have hk := hK _ _ h
  unfold Oper.wp execOp
  simp only [ho, Sem.run_bind, hv, Result.andThen_ok]
  exact hk
theorem wp_bld2 {t : TypeId} {i j : Nat} {x y : Operand} (hw : Region.wanted op (yielded ops a.tmps) = true) (ho : op.op = .build t #[(i, x), (j, y)]) {u1 u2 : Value} (h1 : a.eval x = u1) (h2 : a.eval y = u2) {v : Value}
    (hv : ∀ w, (Instr.build t #[(i, u1), (j, u2)]).run P w = .ok v w) (h : wpList P ops Q rest (a.put op.dst v) w) : wpList P ops Q (op :: rest) a w :=
  wp_bld hw ho (by simp [h1, h2]) hv h
theorem wp_bld4 {t : TypeId} {i j k l : Nat} {x y z q : Operand} (hw : Region.wanted op (yielded ops a.tmps) = true) (ho : op.op = .build t #[(i, x), (j, y), (k, z), (l, q)]) {u1 u2 u3 u4 : Value} (h1 : a.eval x = u1) (h2 : a.eval y = u2) (h3 : a.eval z = u3) (h4 : a.eval q = u4) {v : Value}
    (hv : ∀ w, (Instr.build t #[(i, u1), (j, u2), (k, u3), (l, u4)]).run P w = .ok v w) (h : wpList P ops Q rest (a.put op.dst v) w) : wpList P ops Q (op :: rest) a w :=
  wp_bld hw ho (by simp [h1, h2, h3, h4]) hv h
end
def roughAt : Array (Nat × Nat) := #[(0, 1), (1, 6), (7, 1), (8, 1)]
theorem rough_0 (neg : Bool) (s : Nat) (e : Int) (mo neg' : Bool) (rest : List (Nat × Value)) : Instr.fill (roughAt[·]?) (rough neg s e mo) ((0, .bool neg') :: rest) = Instr.fill (roughAt[·]?) (rough neg' s e mo) rest := fill_step _ _ 0 0 1 _ _ rfl rfl (show 0 + 1 ≤ 9 by decide)
theorem rough_1 (neg : Bool) (s : Nat) (e : Int) (mo : Bool) (s' : Nat) (rest : List (Nat × Value)) : Instr.fill (roughAt[·]?) (rough neg s e mo) ((1, W s') :: rest) = Instr.fill (roughAt[·]?) (rough neg s' e mo) rest := fill_step _ _ 1 1 6 _ _ rfl rfl (show 1 + 6 ≤ 9 by decide)
theorem rough_2 (neg : Bool) (s : Nat) (e : Int) (mo : Bool) (e' : Int) (rest : List (Nat × Value)) : Instr.fill (roughAt[·]?) (rough neg s e mo) ((2, .int .i64 e') :: rest) = Instr.fill (roughAt[·]?) (rough neg s e' mo) rest := fill_step _ _ 2 7 1 _ _ rfl rfl (show 7 + 1 ≤ 9 by decide)
theorem rough_3 (neg : Bool) (s : Nat) (e : Int) (mo mo' : Bool) (rest : List (Nat × Value)) : Instr.fill (roughAt[·]?) (rough neg s e mo) ((3, .bool mo') :: rest) = Instr.fill (roughAt[·]?) (rough neg s e mo') rest := fill_step _ _ 3 8 1 _ _ rfl rfl (show 8 + 1 ≤ 9 by decide)
theorem places_rough (w : World) : ∃ fs, Tryz.prog.underlying 86 = some (.struct fs) ∧ (fs.mapM fun f => do pure (f.offset, ← sizeOf f.type) : Sem (Array (Nat × Nat))).run Tryz.prog w = .ok roughAt w := by
  refine ⟨_, Tryz.underlying86, ?_⟩
  unfold roughAt
  go_simp
theorem run_rough (w : World) (ps : Array (Nat × Value)) (cs : Array Value) (hf : Instr.fill (roughAt[·]?) (rough false 0 0 false) ps.toList = some cs) : (Instr.build 86 ps).run Tryz.prog w = .ok (.agg cs) w := by
  obtain ⟨fs, hu, hp⟩ := places_rough w
  exact run_build rR hu hp ps cs hf
theorem rough_nsem (neg : Bool) (s : Nat) (e : Int) (mo : Bool) (w : World) : (Instr.build 86 #[(0, .bool neg), (1, W s), (2, .int .i64 e), (3, .bool mo)]).run Tryz.prog w = .ok (RV neg s e mo) w :=
  run_rough w _ _ (by show Instr.fill _ _ [_, _, _, _] = _; rw [rough_0, rough_1, rough_2, rough_3]; rfl)
open Go.RowKit
def partsAt : Array (Nat × Nat) := #[(0, 1), (1, 6), (7, 1), (8, 6)]
theorem places_parts (w : World) : ∃ fs, Tryz.prog.underlying 103 = some (.struct fs) ∧ (fs.mapM fun f => do pure (f.offset, ← sizeOf f.type) : Sem (Array (Nat × Nat))).run Tryz.prog w = .ok partsAt w := by
  refine ⟨_, Tryz.underlying103, ?_⟩
  unfold partsAt
  go_simp
theorem parts_0 (c s : Nat) (x : Int) (f c' : Nat) (rest : List (Nat × Value)) : Instr.fill (partsAt[·]?) (parts c s x f) ((0, .int .u8 c') :: rest) = Instr.fill (partsAt[·]?) (parts c' s x f) rest := fill_step _ _ 0 0 1 _ _ rfl rfl (show 0 + 1 ≤ 14 by decide)
theorem parts_c (c : Nat) (w : World) : (Instr.build 103 #[(0, .int .u8 c)]).run Tryz.prog w = .ok (PV c 0 0 0) w := by
  obtain ⟨fs, hu, hp⟩ := places_parts w
  exact run_build rP hu hp _ _ (by show Instr.fill _ _ [_] = _; rw [parts_0]; rfl)
theorem wp_bld1 {P : Program} {op : Oper} {a : Act} {Q : Exit → Act → World → Prop} {ops : Array Oper} {rest : List Oper} {w : World} {t : TypeId} {i : Nat} {x : Operand} (hw : Region.wanted op (yielded ops a.tmps) = true) (ho : op.op = .build t #[(i, x)]) {u1 : Value} (h1 : a.eval x = u1) {v : Value}
    (hv : ∀ w, (Instr.build t #[(i, u1)]).run P w = .ok v w) (h : wpList P ops Q rest (a.put op.dst v) w) : wpList P ops Q (op :: rest) a w :=
  wp_bld hw ho (by simp [h1]) hv h
theorem set_pwR (a b : Nat) (x : Int) (d c s : Nat) (y : Int) (f : Nat) : setRow (parts a b x d) 0 (parts c s y f).toList = parts c s y f := set_all _ _ rfl
theorem fits_len (f b : Nat) (hf : f < 4) : decide (lenN b ≤ wF f) = fitsB f b := by
  unfold fitsB; rw [decide_eq_true hf, Bool.true_and, decide_eq_decide]; exact lenN_le b _
theorem sign_normal (f b : Nat) (h : clsN f b = 1 ∨ clsN f b = 6) : sigN f b = 2 ^ (pF f - 1) + b % 2 ^ (pF f - 1) ∧ frN f b = 0 := by
  unfold sigN frN; rw [if_pos h, if_neg (by omega), Nat.add_comm]; exact ⟨rfl, rfl⟩
theorem r7Fits_no (f b : Nat) (w : World) (cR : CK_ 62 #[.int .u8 f] (.bool false)) :
    Calls Tryz.prog 48 #[.int .u8 f, BV b] w fun e w' => e = .returned (.bool false) ∧ Below w.heap.size w w' := by
  have H := Own.start w
  go_enter Tryz.func48, Tryz.ntmps48
  exact walk3
theorem r7Fits_yes (f b l n : Nat) (w : World) (cR : CK_ 62 #[.int .u8 f] (.bool true)) (cO : CK_ 139 #[BV b] (W b)) (cL : CK_ 138 #[W b] (.int .i64 (l : Nat))) (cW : CK_ 140 #[.int .u8 f] (.int .i64 (n : Nat))) :
    Calls Tryz.prog 48 #[.int .u8 f, BV b] w fun e w' => e = .returned (.bool (decide (l ≤ n))) ∧ Below w.heap.size w w' := by
  have H := Own.start w
  go_enter Tryz.func48, Tryz.ntmps48
  exact walk3
theorem r7Fits_any (f b : Nat) (w : World) (hb : b < 2 ^ (64 * 2)) :
    Calls Tryz.prog 48 #[.int .u8 f, BV b] w fun e w' => e = .returned (.bool (fitsB f b)) ∧ Below w.heap.size w w' := by
  have cR := fun w => r7Right_any f w
  by_cases hf : f < 4
  · rw [decide_eq_true hf] at cR
    have h := r7Fits_yes f b (lenN b) (wF f) w cR (fun w => r2OfBits_any b w hb) (fun w => r2Len_any b w (lt_top_bits b hb)) (fun w => r7Width_any f w)
    rw [fits_len f b hf] at h
    exact h
  · rw [decide_eq_false hf] at cR
    rw [show fitsB f b = false by unfold fitsB; rw [decide_eq_false hf]; rfl]
    exact r7Fits_no f b w cR
theorem r8IsNaN_w (f b c : Nat) (w : World) (cC : CK_ 142 #[.int .u8 f, BV b] (.int .u8 (c : Nat))) :
    Calls Tryz.prog 51 #[.int .u8 f, BV b] w fun e w' => e = .returned (.bool (decide (8 ≤ (c : Int)))) ∧ Below w.heap.size w w' := by
  have H := Own.start w
  go_enter Tryz.func51, Tryz.ntmps51
  exact walk3
theorem r8IsNaN_any (f b : Nat) (w : World) (hf : f < 4) (hb : b < 2 ^ (64 * 2)) :
    Calls Tryz.prog 51 #[.int .u8 f, BV b] w fun e w' => e = .returned (.bool (nanB (clsN f b))) ∧ Below w.heap.size w w' := by
  have h := r8IsNaN_w f b _ w (fun w => r8Class_any f b w hf hb)
  rw [show decide (8 ≤ (clsN f b : Int)) = nanB (clsN f b) by unfold nanB; rw [decide_eq_decide]; omega] at h
  exact h
theorem r8Sign_no (f b : Nat) (w : World) (cT : CK_ 48 #[.int .u8 f, BV b] (.bool false)) :
    Calls Tryz.prog 50 #[.int .u8 f, BV b] w fun e w' => e = .returned (.bool false) ∧ Below w.heap.size w w' := by
  have H := Own.start w
  go_enter Tryz.func50, Tryz.ntmps50
  exact walk3
theorem r8Sign_yes (f b e0 t : Nat) (neg : Bool) (w : World) (cT : CK_ 48 #[.int .u8 f, BV b] (.bool true)) (cF : CK_ 141 #[.int .u8 f, BV b] (.tuple #[.bool neg, .int .i64 (e0 : Nat), W t])) :
    Calls Tryz.prog 50 #[.int .u8 f, BV b] w fun e w' => e = .returned (.bool neg) ∧ Below w.heap.size w w' := by
  have H := Own.start w
  go_enter Tryz.func50, Tryz.ntmps50
  exact walk3
theorem r8Sign_any (f b : Nat) (w : World) (hb : b < 2 ^ (64 * 2)) :
    Calls Tryz.prog 50 #[.int .u8 f, BV b] w fun e w' => e = .returned (.bool (fitsB f b && negN f b)) ∧ Below w.heap.size w w' := by
  have cT := fun w => r7Fits_any f b w hb
  cases h : fitsB f b
  · rw [h] at cT; exact r8Sign_no f b w cT
  · rw [h] at cT
    have hf := ((fits_iff f b).1 h).1
    exact r8Sign_yes f b _ _ _ w cT (fun w => r7Fields_any f b w hf hb)
open Go.RowKit
theorem r8Unpack_8 (f b c e0 t p m s u : Nat) (em : Int) (neg lo ca : Bool) (w : World) (hp : p ≤ 113) (h1p : 1 ≤ p) (hm : m ≤ 20000) (he : e0 ≤ 40000) (hem : -20000 ≤ em) (hem2 : em ≤ 20000) (q8 : ((c : Int) == 8) = true) (cC : CK_ 142 #[.int .u8 f, BV b] (.int .u8 (c : Nat))) (cF : CK_ 141 #[.int .u8 f, BV b] (.tuple #[.bool neg, .int .i64 (e0 : Nat), W t])) (cP : CK_ 173 #[.int .u8 f] (.int .i64 (p : Nat)))  :
    Calls Tryz.prog 176 #[.int .u8 f, BV b] w fun e w' => e = .returned (PV c 0 0 t) ∧ Below w.heap.size w w' := by
  have H := Own.start w
  go_enter Tryz.func176, Tryz.ntmps176
  exact walk3
theorem r8Unpack_9 (f b c e0 t p m s u : Nat) (em : Int) (neg lo ca : Bool) (w : World) (hp : p ≤ 113) (h1p : 1 ≤ p) (hm : m ≤ 20000) (he : e0 ≤ 40000) (hem : -20000 ≤ em) (hem2 : em ≤ 20000) (q8 : ((c : Int) == 8) = false) (q9 : ((c : Int) == 9) = true) (cC : CK_ 142 #[.int .u8 f, BV b] (.int .u8 (c : Nat))) (cF : CK_ 141 #[.int .u8 f, BV b] (.tuple #[.bool neg, .int .i64 (e0 : Nat), W t])) (cP : CK_ 173 #[.int .u8 f] (.int .i64 (p : Nat)))  :
    Calls Tryz.prog 176 #[.int .u8 f, BV b] w fun e w' => e = .returned (PV c 0 0 t) ∧ Below w.heap.size w w' := by
  have H := Own.start w
  go_enter Tryz.func176, Tryz.ntmps176
  exact walk3
theorem r8Unpack_2 (f b c e0 t p m s u : Nat) (em : Int) (neg lo ca : Bool) (w : World) (hp : p ≤ 113) (h1p : 1 ≤ p) (hm : m ≤ 20000) (he : e0 ≤ 40000) (hem : -20000 ≤ em) (hem2 : em ≤ 20000) (q8 : ((c : Int) == 8) = false) (q9 : ((c : Int) == 9) = false) (q2 : ((c : Int) == 2) = true) (cC : CK_ 142 #[.int .u8 f, BV b] (.int .u8 (c : Nat))) (cF : CK_ 141 #[.int .u8 f, BV b] (.tuple #[.bool neg, .int .i64 (e0 : Nat), W t])) (cP : CK_ 173 #[.int .u8 f] (.int .i64 (p : Nat))) (cE : CK_ 180 #[.int .u8 f] (.int .i64 em))  :
    Calls Tryz.prog 176 #[.int .u8 f, BV b] w fun e w' => e = .returned (PV c t (em - (p : Int) + 1) 0) ∧ Below w.heap.size w w' := by
  have H := Own.start w
  go_enter Tryz.func176, Tryz.ntmps176
  exact walk3
theorem r8Unpack_5 (f b c e0 t p m s u : Nat) (em : Int) (neg lo ca : Bool) (w : World) (hp : p ≤ 113) (h1p : 1 ≤ p) (hm : m ≤ 20000) (he : e0 ≤ 40000) (hem : -20000 ≤ em) (hem2 : em ≤ 20000) (q8 : ((c : Int) == 8) = false) (q9 : ((c : Int) == 9) = false) (q2 : ((c : Int) == 2) = false) (q5 : ((c : Int) == 5) = true) (cC : CK_ 142 #[.int .u8 f, BV b] (.int .u8 (c : Nat))) (cF : CK_ 141 #[.int .u8 f, BV b] (.tuple #[.bool neg, .int .i64 (e0 : Nat), W t])) (cP : CK_ 173 #[.int .u8 f] (.int .i64 (p : Nat))) (cE : CK_ 180 #[.int .u8 f] (.int .i64 em))  :
    Calls Tryz.prog 176 #[.int .u8 f, BV b] w fun e w' => e = .returned (PV c t (em - (p : Int) + 1) 0) ∧ Below w.heap.size w w' := by
  have H := Own.start w
  go_enter Tryz.func176, Tryz.ntmps176
  exact walk3
theorem r8Unpack_1 (f b c e0 t p m s u : Nat) (em : Int) (neg lo ca : Bool) (w : World) (hp : p ≤ 113) (h1p : 1 ≤ p) (hm : m ≤ 20000) (he : e0 ≤ 40000) (hem : -20000 ≤ em) (hem2 : em ≤ 20000) (q8 : ((c : Int) == 8) = false) (q9 : ((c : Int) == 9) = false) (q2 : ((c : Int) == 2) = false) (q5 : ((c : Int) == 5) = false) (q1 : ((c : Int) == 1) = true) (cC : CK_ 142 #[.int .u8 f, BV b] (.int .u8 (c : Nat))) (cF : CK_ 141 #[.int .u8 f, BV b] (.tuple #[.bool neg, .int .i64 (e0 : Nat), W t])) (cP : CK_ 173 #[.int .u8 f] (.int .i64 (p : Nat))) (cX : CK_ 179 #[.int .u8 f] (.int .i64 (m : Nat))) (cO : CK_ 172 #[.int .u64 1] (W 1)) (cL : CK_ 171 #[W 1, .int .i64 ((p : Int) - 1)] (.tuple #[W s, .bool lo])) (cA : CK_ 222 #[W s, W t] (.tuple #[W u, .bool ca]))  :
    Calls Tryz.prog 176 #[.int .u8 f, BV b] w fun e w' => e = .returned (PV c u ((e0 : Int) - (m : Int) - (p : Int) + 1) 0) ∧ Below w.heap.size w w' := by
  have H := Own.start w
  go_enter Tryz.func176, Tryz.ntmps176
  exact walk3
theorem r8Unpack_6 (f b c e0 t p m s u : Nat) (em : Int) (neg lo ca : Bool) (w : World) (hp : p ≤ 113) (h1p : 1 ≤ p) (hm : m ≤ 20000) (he : e0 ≤ 40000) (hem : -20000 ≤ em) (hem2 : em ≤ 20000) (q8 : ((c : Int) == 8) = false) (q9 : ((c : Int) == 9) = false) (q2 : ((c : Int) == 2) = false) (q5 : ((c : Int) == 5) = false) (q1 : ((c : Int) == 1) = false) (q6 : ((c : Int) == 6) = true) (cC : CK_ 142 #[.int .u8 f, BV b] (.int .u8 (c : Nat))) (cF : CK_ 141 #[.int .u8 f, BV b] (.tuple #[.bool neg, .int .i64 (e0 : Nat), W t])) (cP : CK_ 173 #[.int .u8 f] (.int .i64 (p : Nat))) (cX : CK_ 179 #[.int .u8 f] (.int .i64 (m : Nat))) (cO : CK_ 172 #[.int .u64 1] (W 1)) (cL : CK_ 171 #[W 1, .int .i64 ((p : Int) - 1)] (.tuple #[W s, .bool lo])) (cA : CK_ 222 #[W s, W t] (.tuple #[W u, .bool ca]))  :
    Calls Tryz.prog 176 #[.int .u8 f, BV b] w fun e w' => e = .returned (PV c u ((e0 : Int) - (m : Int) - (p : Int) + 1) 0) ∧ Below w.heap.size w w' := by
  have H := Own.start w
  go_enter Tryz.func176, Tryz.ntmps176
  exact walk3
theorem r8Unpack_0 (f b c e0 t p m s u : Nat) (em : Int) (neg lo ca : Bool) (w : World) (hp : p ≤ 113) (h1p : 1 ≤ p) (hm : m ≤ 20000) (he : e0 ≤ 40000) (hem : -20000 ≤ em) (hem2 : em ≤ 20000) (q8 : ((c : Int) == 8) = false) (q9 : ((c : Int) == 9) = false) (q2 : ((c : Int) == 2) = false) (q5 : ((c : Int) == 5) = false) (q1 : ((c : Int) == 1) = false) (q6 : ((c : Int) == 6) = false) (cC : CK_ 142 #[.int .u8 f, BV b] (.int .u8 (c : Nat))) (cF : CK_ 141 #[.int .u8 f, BV b] (.tuple #[.bool neg, .int .i64 (e0 : Nat), W t])) (cP : CK_ 173 #[.int .u8 f] (.int .i64 (p : Nat)))  :
    Calls Tryz.prog 176 #[.int .u8 f, BV b] w fun e w' => e = .returned (PV c 0 0 0) ∧ Below w.heap.size w w' := by
  have H := Own.start w
  go_enter Tryz.func176, Tryz.ntmps176
  exact walk3
theorem r8Unpack_any (f b : Nat) (w : World) (hf : f < 4) (hb : b < 2 ^ (64 * 2)) :
    Calls Tryz.prog 176 #[.int .u8 f, BV b] w fun e w' => e = .returned (PV (clsN f b) (sigN f b) (xpN f b) (frN f b)) ∧ Below w.heap.size w w' := by
  obtain ⟨p1, p2, -, -, -, -⟩ := formB f hf
  obtain ⟨-, -, -, k4, k5, k6, -, -⟩ := formK f hf
  have he := expN_lt f b hf
  have cC := fun w => r8Class_any f b w hf hb
  have cF := fun w => r7Fields_any f b w hf hb
  have cP := fun w => r7Precision_any f w
  have cE := fun w => r7Emin_any f w
  have cX := fun w => r7Emax_any f w
  have cO := fun w => r2Of_any 1 w (by decide)
  have cL := fun w => r2Left_any 1 ((pF f : Int) - 1) w (lt_top_bits 1 (by decide))
  rw [show clip ((pF f : Int) - 1) = pF f - 1 by unfold clip; omega, Nat.one_mul] at cL
  have cA := fun w => r2Add_any (2 ^ (pF f - 1)) (b % 2 ^ (pF f - 1)) w
  have key : ∀ c, clsN f b = c → c ≤ 9 → Calls Tryz.prog 176 #[.int .u8 f, BV b] w fun e w' => e = .returned (PV (clsN f b) (sigN f b) (xpN f b) (frN f b)) ∧ Below w.heap.size w w' := by
    intro c hc h9
    rw [hc] at cC
    have hx0 : (clsN f b = 2 ∨ clsN f b = 5) → expN f b = 0 := by
      intro h
      unfold clsN at h
      by_cases h1 : expN f b = 2 * eF f + 1
      · rw [if_pos h1] at h
        split at h
        · cases hn : b.testBit (wF f - 1) <;> rw [hn] at h <;> simp at h
        · cases hn : (b % 2 ^ (pF f - 1)).testBit (pF f - 2) <;> rw [hn] at h <;> simp at h
      · rw [if_neg h1] at h
        by_cases h2 : expN f b = 0
        · exact h2
        · rw [if_neg h2] at h
          cases hn : b.testBit (wF f - 1) <;> rw [hn] at h <;> simp at h
    obtain rfl | rfl | rfl | rfl | rfl | rfl | rfl | rfl | rfl | rfl : c = 0 ∨ c = 1 ∨ c = 2 ∨ c = 3 ∨ c = 4 ∨ c = 5 ∨ c = 6 ∨ c = 7 ∨ c = 8 ∨ c = 9 := by omega
    · have h := r8Unpack_0 f b 0 (expN f b) (b % 2 ^ (pF f - 1)) (pF f) (eF f) 0 0 (eminI f) _ false false w p2 (by omega) (by omega) (by omega) (by omega) (by omega) (int_eq_false _ _ (by decide)) (int_eq_false _ _ (by decide)) (int_eq_false _ _ (by decide)) (int_eq_false _ _ (by decide)) (int_eq_false _ _ (by decide)) (int_eq_false _ _ (by decide)) cC cF cP
      have e1 : sigN f b = 0 := by unfold sigN; rw [if_neg (by omega), if_neg (by omega)]
      have e2 : xpN f b = 0 := by unfold xpN; rw [if_neg (by omega), if_neg (by omega)]
      have e3 : frN f b = 0 := by unfold frN; rw [if_neg (by omega)]
      rw [hc, e1, e2, e3]; exact h
    · have h := r8Unpack_1 f b 1 (expN f b) (b % 2 ^ (pF f - 1)) (pF f) (eF f) _ _ (eminI f) _ _ _ w p2 (by omega) (by omega) (by omega) (by omega) (by omega) (int_eq_false _ _ (by decide)) (int_eq_false _ _ (by decide)) (int_eq_false _ _ (by decide)) (int_eq_false _ _ (by decide)) (int_eq_true _ _ (by decide)) cC cF cP cX cO cL cA
      have e1 : xpN f b = (expN f b : Int) - (eF f : Int) - (pF f : Int) + 1 := by unfold xpN; rw [if_pos (by omega)]; omega
      obtain ⟨e2, e3⟩ := sign_normal f b (by omega)
      rw [hc, e1, e2, e3]; exact h
    · have h := r8Unpack_2 f b 2 (expN f b) (b % 2 ^ (pF f - 1)) (pF f) (eF f) 0 0 (eminI f) _ false false w p2 (by omega) (by omega) (by omega) (by omega) (by omega) (int_eq_false _ _ (by decide)) (int_eq_false _ _ (by decide)) (int_eq_true _ _ (by decide)) cC cF cP cE
      have e1 : xpN f b = eminI f - (pF f : Int) + 1 := by unfold xpN; rw [if_neg (by omega), if_pos (by omega), hx0 (by omega)]; omega
      have e2 : sigN f b = b % 2 ^ (pF f - 1) := by unfold sigN; rw [if_neg (by omega), if_pos (by omega)]
      have e3 : frN f b = 0 := by unfold frN; rw [if_neg (by omega)]
      rw [hc, e1, e2, e3]; exact h
    · have h := r8Unpack_0 f b 3 (expN f b) (b % 2 ^ (pF f - 1)) (pF f) (eF f) 0 0 (eminI f) _ false false w p2 (by omega) (by omega) (by omega) (by omega) (by omega) (int_eq_false _ _ (by decide)) (int_eq_false _ _ (by decide)) (int_eq_false _ _ (by decide)) (int_eq_false _ _ (by decide)) (int_eq_false _ _ (by decide)) (int_eq_false _ _ (by decide)) cC cF cP
      have e1 : sigN f b = 0 := by unfold sigN; rw [if_neg (by omega), if_neg (by omega)]
      have e2 : xpN f b = 0 := by unfold xpN; rw [if_neg (by omega), if_neg (by omega)]
      have e3 : frN f b = 0 := by unfold frN; rw [if_neg (by omega)]
      rw [hc, e1, e2, e3]; exact h
    · have h := r8Unpack_0 f b 4 (expN f b) (b % 2 ^ (pF f - 1)) (pF f) (eF f) 0 0 (eminI f) _ false false w p2 (by omega) (by omega) (by omega) (by omega) (by omega) (int_eq_false _ _ (by decide)) (int_eq_false _ _ (by decide)) (int_eq_false _ _ (by decide)) (int_eq_false _ _ (by decide)) (int_eq_false _ _ (by decide)) (int_eq_false _ _ (by decide)) cC cF cP
      have e1 : sigN f b = 0 := by unfold sigN; rw [if_neg (by omega), if_neg (by omega)]
      have e2 : xpN f b = 0 := by unfold xpN; rw [if_neg (by omega), if_neg (by omega)]
      have e3 : frN f b = 0 := by unfold frN; rw [if_neg (by omega)]
      rw [hc, e1, e2, e3]; exact h
    · have h := r8Unpack_5 f b 5 (expN f b) (b % 2 ^ (pF f - 1)) (pF f) (eF f) 0 0 (eminI f) _ false false w p2 (by omega) (by omega) (by omega) (by omega) (by omega) (int_eq_false _ _ (by decide)) (int_eq_false _ _ (by decide)) (int_eq_false _ _ (by decide)) (int_eq_true _ _ (by decide)) cC cF cP cE
      have e1 : xpN f b = eminI f - (pF f : Int) + 1 := by unfold xpN; rw [if_neg (by omega), if_pos (by omega), hx0 (by omega)]; omega
      have e2 : sigN f b = b % 2 ^ (pF f - 1) := by unfold sigN; rw [if_neg (by omega), if_pos (by omega)]
      have e3 : frN f b = 0 := by unfold frN; rw [if_neg (by omega)]
      rw [hc, e1, e2, e3]; exact h
    · have h := r8Unpack_6 f b 6 (expN f b) (b % 2 ^ (pF f - 1)) (pF f) (eF f) _ _ (eminI f) _ _ _ w p2 (by omega) (by omega) (by omega) (by omega) (by omega) (int_eq_false _ _ (by decide)) (int_eq_false _ _ (by decide)) (int_eq_false _ _ (by decide)) (int_eq_false _ _ (by decide)) (int_eq_false _ _ (by decide)) (int_eq_true _ _ (by decide)) cC cF cP cX cO cL cA
      have e1 : xpN f b = (expN f b : Int) - (eF f : Int) - (pF f : Int) + 1 := by unfold xpN; rw [if_pos (by omega)]; omega
      obtain ⟨e2, e3⟩ := sign_normal f b (by omega)
      rw [hc, e1, e2, e3]; exact h
    · have h := r8Unpack_0 f b 7 (expN f b) (b % 2 ^ (pF f - 1)) (pF f) (eF f) 0 0 (eminI f) _ false false w p2 (by omega) (by omega) (by omega) (by omega) (by omega) (int_eq_false _ _ (by decide)) (int_eq_false _ _ (by decide)) (int_eq_false _ _ (by decide)) (int_eq_false _ _ (by decide)) (int_eq_false _ _ (by decide)) (int_eq_false _ _ (by decide)) cC cF cP
      have e1 : sigN f b = 0 := by unfold sigN; rw [if_neg (by omega), if_neg (by omega)]
      have e2 : xpN f b = 0 := by unfold xpN; rw [if_neg (by omega), if_neg (by omega)]
      have e3 : frN f b = 0 := by unfold frN; rw [if_neg (by omega)]
      rw [hc, e1, e2, e3]; exact h
    · have h := r8Unpack_8 f b 8 (expN f b) (b % 2 ^ (pF f - 1)) (pF f) (eF f) 0 0 (eminI f) _ false false w p2 (by omega) (by omega) (by omega) (by omega) (by omega) (int_eq_true _ _ (by decide)) cC cF cP
      have e1 : sigN f b = 0 := by unfold sigN; rw [if_neg (by omega), if_neg (by omega)]
      have e2 : xpN f b = 0 := by unfold xpN; rw [if_neg (by omega), if_neg (by omega)]
      have e3 : frN f b = b % 2 ^ (pF f - 1) := by unfold frN; rw [if_pos (by omega)]
      rw [hc, e1, e2, e3]; exact h
    · have h := r8Unpack_9 f b 9 (expN f b) (b % 2 ^ (pF f - 1)) (pF f) (eF f) 0 0 (eminI f) _ false false w p2 (by omega) (by omega) (by omega) (by omega) (by omega) (int_eq_false _ _ (by decide)) (int_eq_true _ _ (by decide)) cC cF cP
      have e1 : sigN f b = 0 := by unfold sigN; rw [if_neg (by omega), if_neg (by omega)]
      have e2 : xpN f b = 0 := by unfold xpN; rw [if_neg (by omega), if_neg (by omega)]
      have e3 : frN f b = b % 2 ^ (pF f - 1) := by unfold frN; rw [if_pos (by omega)]
      rw [hc, e1, e2, e3]; exact h
  exact key _ rfl (cls_le f b)
end Go.Proofs.YtecdpjhifmlahaaGreatDoor
