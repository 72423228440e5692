/- Part 9 of the proof. -/
import Derived.Test.YtgmhmpflmgfcdaaGreatDoorHq4
import Derived.Test.YtgmhmpflmgfcdaaGreatDoorHq5
import Derived.Test.YtgmhmpflmgfcdaaGreatDoorHq7
import Derived.Test.YtgmhmpflmgfcdaaGreatDoorHq8
set_option linter.unusedSimpArgs false
set_option linter.unusedVariables false
set_option linter.unnecessarySimpa false
set_option maxRecDepth 100000
set_option maxHeartbeats 3200000
namespace Go.Proofs.YtgmhmpflmgfcdaaGreatDoor
open Go.RowKit
def AddAt (a b : Nat) (c0 : Bool) (k s : Nat) (c : Bool) : Prop := a % 2 ^ k + b % 2 ^ k + c0.toNat = s + 2 ^ k * c.toNat ∧ s < 2 ^ k
theorem addAt_zero (a b : Nat) (c0 : Bool) : AddAt a b c0 0 0 c0 := by unfold AddAt; rw [Nat.pow_zero, Nat.mod_one, Nat.mod_one]; exact ⟨by omega, by decide⟩
theorem bit_cond (a k : Nat) : a % 2 ^ (k + 1) = a % 2 ^ k + 2 ^ k * (a.testBit k).toNat := by
 cases h : a.testBit k
 ·rw [bit_f a k h]; rfl
 ·rw [bit_t a k h]; show _ = _ + 2 ^ k * 1; rw [Nat.mul_one]
theorem addAt_step (a b : Nat) (c0 : Bool) (k s : Nat) (c : Bool) (h : AddAt a b c0 k s c) :
  AddAt a b c0 (k + 1) (cond ((a.testBit k != b.testBit k) != c) (s + 2 ^ k) s) (a.testBit k && b.testBit k || (a.testBit k && c || b.testBit k && c)) := by
 obtain ⟨h1, h2⟩ := h
 unfold AddAt
 rw [bit_cond a k, bit_cond b k, Nat.pow_succ]
 cases a.testBit k <;> cases b.testBit k <;> cases c <;> simp at * <;> omega
theorem addAt_all (a b : Nat) (c0 : Bool) (s : Nat) (c : Bool) (ha : a < 18446744073709551616) (hb : b < 18446744073709551616) (h : AddAt a b c0 64 s c) : (s : Int) = addW a b c0 ∧ c = carW a b c0 := by
 obtain ⟨h1, h2⟩ := h
 rw [← B64] at h1 h2
 rw [Nat.mod_eq_of_lt ha, Nat.mod_eq_of_lt hb] at h1
 unfold addW carW
 cases c0 <;> cases c <;> simp at * <;> omega
theorem lenN_bit (x i : Nat) : lenN (x % 2 ^ (i + 1)) = if x.testBit i = true then i + 1 else lenN (x % 2 ^ i) := by
 cases h : x.testBit i
 ·rw [bit_f x i h]; rfl
 ·rw [bit_t x i h, if_pos rfl]
  have := Nat.mod_lt x (two_pos i)
  exact lenN_unique _ _ (by rw [Nat.add_sub_cancel]; omega) (by rw [Nat.pow_succ]; omega) (by omega)
theorem r1Add_nat (a b : Nat) (c0 : Bool) (w0 : World) (ha : a < 18446744073709551616) (hb : b < 18446744073709551616) :
  CR_ 230 #[.int .u64 a, .int .u64 b, .bool c0] w0 (.tuple #[.int .u64 (addW a b c0), .bool (carW a b c0)]) := by
 have H := Own.start w0
 have HA := Lib.hid ha
 have HB := Lib.hid hb
 clear ha hb
 go_enter Tryz.func230, Tryz.ntmps230
 go_wp2_with (first
  | ((with_reducible refine g0_ rfl ?_); refine H.xb ?_; (intro g w H; simp only [Act.put, q1_, q2_, q3_]))
  | ((with_reducible refine g1_ rfl ?_); refine H.xa ?_; (intro g w H; simp only [Act.put, q1_, q2_, q3_]))
  | ((with_reducible refine g2_ rfl ?_); (first | refine H.xl ?_ | refine H.xm ?_); simp only [Act.put, q1_, q2_, q3_])
  | ((with_reducible refine g3_ rfl ?_); (first | refine H.xs ?_ | refine H.xt ?_); (intro w H; simp only [Act.put]))
  | (go_at_call 139; (with_reducible refine H.kc (cA _) ?_; clear H; intro w H))
  | (go_at_call 139; (with_reducible refine H.kc (cB _) ?_; clear H; intro w H))
  )
 go_loopw [2, 8, 9] (fun cv sv iv wr => ∃ (k t : Nat) (c : Bool), k ≤ 64 ∧ iv = .int .i64 k ∧ sv = .int .u64 t ∧ cv = .bool c ∧ Hid (AddAt a b c0 k t c) ∧ Own w0 wr []) (fun _ _ i _ => 64 - (intOf i).toNat)
 case atStart => exact ⟨0, 0, c0, by omega, rfl, rfl, rfl, Lib.hid (addAt_zero a b c0), H⟩
 case round =>
  clear H
  obtain ⟨k, t, c, hk, rfl, rfl, rfl, hA, H⟩ := hrel
  by_cases hlt : k < 64
  ·have cA := fun w => r1Bit_any a k w HA.out hlt
   have cB := fun w => r1Bit_any b k w HB.out hlt
   have st := addAt_step a b c0 k t c hA.out
   have ht := hA.out.2
   have HO := Lib.hid (bits_or_top t k ht hlt)
   have hlti : (k : Int) < 64 := by omega
   have e3 : IntKind.u64.wrap (k : Int) = (k : Int) := by rw [IntKind.wrap_u64]; omega
   have e4 : min (k : Int).toNat 64 = k := by omega
   have e5 : min k 64 = k := by omega
   clear ht hA
   cases hx : a.testBit k <;> cases hy : b.testBit k <;> cases c <;> rw [hx] at cA st <;> rw [hy] at cB st <;>
   ·have S := Lib.hid st
    clear st hx hy
    go_wp2_with (first
  | ((with_reducible refine g0_ rfl ?_); refine H.xb ?_; (intro g w H; simp only [Act.put, q1_, q2_, q3_]))
  | ((with_reducible refine g1_ rfl ?_); refine H.xa ?_; (intro g w H; simp only [Act.put, q1_, q2_, q3_]))
  | ((with_reducible refine g2_ rfl ?_); (first | refine H.xl ?_ | refine H.xm ?_); simp only [Act.put, q1_, q2_, q3_])
  | ((with_reducible refine g3_ rfl ?_); (first | refine H.xs ?_ | refine H.xt ?_); (intro w H; simp only [Act.put]))
  | (go_at_call 139; (with_reducible refine H.kc (cA _) ?_; clear H; intro w H))
  | (go_at_call 139; (with_reducible refine H.kc (cB _) ?_; clear H; intro w H))
  )
    all_goals
     go_roundw
     case rel => exact ⟨k + 1, _, _, by omega, by go_num, (by first | rfl | (rw [HO.out]; rfl)), rfl, S, H⟩
     case measure => simp [intOf] <;> omega
  ·obtain rfl : k = 64 := by omega
   obtain ⟨r1, r2⟩ := addAt_all a b c0 t c HA.out HB.out hA.out
   have h1 := Lib.hid r1
   have h2 := Lib.hid r2
   clear r1 r2 hA hk hlt
   go_wp2_with (first
  | ((with_reducible refine g0_ rfl ?_); refine H.xb ?_; (intro g w H; simp only [Act.put, q1_, q2_, q3_]))
  | ((with_reducible refine g1_ rfl ?_); refine H.xa ?_; (intro g w H; simp only [Act.put, q1_, q2_, q3_]))
  | ((with_reducible refine g2_ rfl ?_); (first | refine H.xl ?_ | refine H.xm ?_); simp only [Act.put, q1_, q2_, q3_])
  | ((with_reducible refine g3_ rfl ?_); (first | refine H.xs ?_ | refine H.xt ?_); (intro w H; simp only [Act.put]))
  | (go_at_call 139; (with_reducible refine H.kc (cA _) ?_; clear H; intro w H))
  | (go_at_call 139; (with_reducible refine H.kc (cB _) ?_; clear H; intro w H))
  )
   go_ret2
   exact ⟨by rw [h1.out, h2.out]; rfl, H.below⟩
theorem r1Add_any (x y : Int) (c : Bool) (w : World) (hx : IsW x) (hy : IsW y) :
  CR_ 230 #[.int .u64 x, .int .u64 y, .bool c] w (.tuple #[.int .u64 (addW x y c), .bool (carW x y c)]) := by
 obtain ⟨a, rfl, ha⟩ := hx.nat
 obtain ⟨b, rfl, hb⟩ := hy.nat
 exact r1Add_nat a b c w ha hb
theorem r1Len_any (a : Nat) (w0 : World) (ha : a < 18446744073709551616) :
  CR_ 191 #[.int .u64 a] w0 (.int .i64 (lenN a : Nat)) := by
 have H := Own.start w0
 have HA := Lib.hid ha
 clear ha
 go_enter Tryz.func191, Tryz.ntmps191
 go_wp2_with (first
  | ((with_reducible refine g0_ rfl ?_); refine H.xb ?_; (intro g w H; simp only [Act.put, q1_, q2_, q3_]))
  | ((with_reducible refine g1_ rfl ?_); refine H.xa ?_; (intro g w H; simp only [Act.put, q1_, q2_, q3_]))
  | ((with_reducible refine g2_ rfl ?_); (first | refine H.xl ?_ | refine H.xm ?_); simp only [Act.put, q1_, q2_, q3_])
  | ((with_reducible refine g3_ rfl ?_); (first | refine H.xs ?_ | refine H.xt ?_); (intro w H; simp only [Act.put]))
  | (go_at_call 139; (with_reducible refine H.kc (cA _) ?_; clear H; intro w H))
  )
 go_loopw [3, 4] (fun nv iv wr => ∃ (k : Nat), k ≤ 64 ∧ iv = .int .i64 k ∧ nv = .int .i64 (lenN (a % 2 ^ k) : Nat) ∧ Own w0 wr []) (fun _ i _ => 64 - (intOf i).toNat)
 case atStart => exact ⟨0, by omega, rfl, by rw [Nat.pow_zero, Nat.mod_one]; rfl, H⟩
 case round =>
  clear H
  obtain ⟨k, hk, rfl, rfl, H⟩ := hrel
  by_cases hlt : k < 64
  ·have cA := fun w => r1Bit_any a k w HA.out hlt
   have st := Lib.hid (lenN_bit a k)
   have hlti : (k : Int) < 64 := by omega
   cases hx : a.testBit k <;> rw [hx] at cA
   ·have S := Lib.hid (show lenN (a % 2 ^ (k + 1)) = lenN (a % 2 ^ k) by rw [st.out, hx]; rfl)
    clear hx st
    go_wp2_with (first
  | ((with_reducible refine g0_ rfl ?_); refine H.xb ?_; (intro g w H; simp only [Act.put, q1_, q2_, q3_]))
  | ((with_reducible refine g1_ rfl ?_); refine H.xa ?_; (intro g w H; simp only [Act.put, q1_, q2_, q3_]))
  | ((with_reducible refine g2_ rfl ?_); (first | refine H.xl ?_ | refine H.xm ?_); simp only [Act.put, q1_, q2_, q3_])
  | ((with_reducible refine g3_ rfl ?_); (first | refine H.xs ?_ | refine H.xt ?_); (intro w H; simp only [Act.put]))
  | (go_at_call 139; (with_reducible refine H.kc (cA _) ?_; clear H; intro w H))
  )
    all_goals
     go_roundw
     case rel => exact ⟨k + 1, by omega, by go_num, by rw [S.out], H⟩
     case measure => simp [intOf] <;> omega
   ·have S := Lib.hid (show lenN (a % 2 ^ (k + 1)) = k + 1 by rw [st.out, hx]; rfl)
    clear hx st
    go_wp2_with (first
  | ((with_reducible refine g0_ rfl ?_); refine H.xb ?_; (intro g w H; simp only [Act.put, q1_, q2_, q3_]))
  | ((with_reducible refine g1_ rfl ?_); refine H.xa ?_; (intro g w H; simp only [Act.put, q1_, q2_, q3_]))
  | ((with_reducible refine g2_ rfl ?_); (first | refine H.xl ?_ | refine H.xm ?_); simp only [Act.put, q1_, q2_, q3_])
  | ((with_reducible refine g3_ rfl ?_); (first | refine H.xs ?_ | refine H.xt ?_); (intro w H; simp only [Act.put]))
  | (go_at_call 139; (with_reducible refine H.kc (cA _) ?_; clear H; intro w H))
  )
    all_goals
     go_roundw
     case rel => exact ⟨k + 1, by omega, by go_num, by rw [S.out]; go_num, H⟩
     case measure => simp [intOf] <;> omega
  ·obtain rfl : k = 64 := by omega
   have h1 := Lib.hid (show a % 2 ^ 64 = a from Nat.mod_eq_of_lt (by rw [← B64]; exact HA.out))
   rw [h1.out]
   clear h1 hk hlt
   go_wp2_with (first
  | ((with_reducible refine g0_ rfl ?_); refine H.xb ?_; (intro g w H; simp only [Act.put, q1_, q2_, q3_]))
  | ((with_reducible refine g1_ rfl ?_); refine H.xa ?_; (intro g w H; simp only [Act.put, q1_, q2_, q3_]))
  | ((with_reducible refine g2_ rfl ?_); (first | refine H.xl ?_ | refine H.xm ?_); simp only [Act.put, q1_, q2_, q3_])
  | ((with_reducible refine g3_ rfl ?_); (first | refine H.xs ?_ | refine H.xt ?_); (intro w H; simp only [Act.put]))
  | (go_at_call 139; (with_reducible refine H.kc (cA _) ?_; clear H; intro w H))
  )
   go_ret
   exact ⟨rfl, H.below⟩
theorem set_lowR (V k : Nat) (hk : k < 6) : setRow (limbs (V % 2 ^ (64 * k))) k (#[.int .u64 (limb V k)] : Array Value).toList = limbs (V % 2 ^ (64 * (k + 1))) := by
 rw [mod_low]; exact limbs_put _ _ k hk (Nat.mod_lt _ (pw_pos k)) (limbN_lt V k)
theorem add_word (a b k : Nat) : addW (limb a k) (limb b k) (cbit a b k) = limb (a + b) k := by
 unfold limb
 rw [addW_nat]
 have h := sum_step a b k
 rw [mod_low] at h
 have := Nat.add_left_cancel h
 have := Nat.eq_of_mul_eq_mul_right (pw_pos k) this
 rw [this]
theorem car_word (a b k : Nat) : carW (limb a k) (limb b k) (cbit a b k) = cbit a b (k + 1) := by
 unfold limb
 rw [carW_nat, cbit_step]
theorem r2Of_any (x : Nat) (w : World) (hx : x < 18446744073709551616) :
  CR_ 165 #[.int .u64 x] w (W x) := by
 have H := Own.start w
 have HR := Lib.hid (show W (limbN x 0) = W x by rw [show limbN x 0 = x by unfold limbN; rw [Nat.mul_zero, Nat.pow_zero, Nat.div_one, Nat.mod_eq_of_lt hx]])
 have hl : (x : Int) = limb x 0 := by unfold limb limbN; rw [Nat.mul_zero, Nat.pow_zero, Nat.div_one, Nat.mod_eq_of_lt hx]
 rw [hl]
 clear hx hl
 go_enter Tryz.func165, Tryz.ntmps165
 exact walk1
theorem r2Add_any (a b : Nat) (w0 : World) :
  CR_ 217 #[W a, W b] w0 (.tuple #[W (a + b), .bool (cbit a b 6)]) := by
 have H := Own.start w0
 go_enter Tryz.func217, Tryz.ntmps217
 go_wp2_with (first
  | ((with_reducible refine g6_ rfl rfl ?_); refine H.xb ?_; (intro ga w H; simp only [Act.put, q1_, q2_, q3_]))
  | ((with_reducible refine g10_ rfl rfl ?_); refine H.xb ?_; (intro gb w H; simp only [Act.put, q1_, q2_, q3_]))
  | ((with_reducible refine g4_ rfl rfl ?_); refine H.xa ?_; (intro gr w H; simp only [Act.put, q1_, q2_, q3_]))
  | ((with_reducible refine g9_ rfl rfl ?_); refine H.xa ?_; (intro gs w H; simp only [Act.put, q1_, q2_, q3_]))
  | ((with_reducible refine g0_ rfl ?_); refine H.xb ?_; (intro g w H; simp only [Act.put, q1_, q2_, q3_]))
  | ((with_reducible refine g1_ rfl ?_); refine H.xa ?_; (intro g w H; simp only [Act.put, q1_, q2_, q3_]))
  | ((with_reducible refine g2_ rfl ?_); (first | refine H.xl ?_ | refine H.xm ?_); simp only [Act.put, q1_, q2_, q3_])
  | ((with_reducible refine g3_ rfl ?_); (first | refine H.xs ?_ | refine H.xt ?_); (intro w H; simp only [Act.put]))
  | (go_at_call 230; (with_reducible refine H.kc (cS _) ?_; clear H; intro w H))
  )
 go_loopw [7, 8] (fun cv iv wr => ∃ (k : Nat), k ≤ 6 ∧ iv = .int .i64 k ∧ cv = .bool (cbit a b k) ∧ Own w0 wr [(gs, 60, limbs ((a + b) % 2 ^ (64 * k))), (gr, 60, limbs 0), (gb, 60, limbs b), (ga, 60, limbs a)]) (fun _ i _ => 6 - (intOf i).toNat)
 case atStart => exact ⟨0, by omega, rfl, by rw [cbit_zero], by rw [Nat.mul_zero, Nat.pow_zero, Nat.mod_one]; exact H⟩
 case round =>
  clear H
  obtain ⟨k, hk, rfl, rfl, H⟩ := hrel
  by_cases hlt : k < 6
  ·have hlti : (k : Int) < 6 := by omega
   have G1 : (limbs a)[k]? = some (.int .u64 (limb a k)) := limbs_get a k hlt
   have G2 : (limbs b)[k]? = some (.int .u64 (limb b k)) := limbs_get b k hlt
   have cS := fun w => r1Add_any (limb a k) (limb b k) (cbit a b k) w (limb_w a k) (limb_w b k)
   rw [add_word, car_word] at cS
   go_wp2_with (first
  | ((with_reducible refine g6_ rfl rfl ?_); refine H.xb ?_; (intro ga w H; simp only [Act.put, q1_, q2_, q3_]))
  | ((with_reducible refine g10_ rfl rfl ?_); refine H.xb ?_; (intro gb w H; simp only [Act.put, q1_, q2_, q3_]))
  | ((with_reducible refine g4_ rfl rfl ?_); refine H.xa ?_; (intro gr w H; simp only [Act.put, q1_, q2_, q3_]))
  | ((with_reducible refine g9_ rfl rfl ?_); refine H.xa ?_; (intro gs w H; simp only [Act.put, q1_, q2_, q3_]))
  | ((with_reducible refine g7_ rfl ?_); refine H.xm ?_ (hv := by first | with_reducible exact G1 | with_reducible exact G2); simp only [Act.put, q1_, q2_, q3_])
  | ((with_reducible refine g8_ rfl ?_); refine H.xt ?_ (hv := set_lowR _ _ hlt); (intro w H; simp only [Act.put]))
  | ((with_reducible refine g0_ rfl ?_); refine H.xb ?_; (intro g w H; simp only [Act.put, q1_, q2_, q3_]))
  | ((with_reducible refine g1_ rfl ?_); refine H.xa ?_; (intro g w H; simp only [Act.put, q1_, q2_, q3_]))
  | ((with_reducible refine g2_ rfl ?_); (first | refine H.xl ?_ | refine H.xm ?_); simp only [Act.put, q1_, q2_, q3_])
  | ((with_reducible refine g3_ rfl ?_); (first | refine H.xs ?_ | refine H.xt ?_); (intro w H; simp only [Act.put]))
  | ((with_reducible show Code.wp _ (.region 6 _ true) _ _ _); refine H.heldSub rfl (List.Sublist.refl _) ?_; intro H; refine H.zr 0 ?_; (try simp only [Act.put, q1_, q2_, q3_]); (try simp only [q4_, q5_, q6_]); refine H.zr 1 ?_; (try simp only [Act.put, q1_, q2_, q3_]); (try simp only [q4_, q5_, q6_]); (first | refine H.zm 2 ?_ (hv := by first | with_reducible exact G1 | with_reducible exact G2) | refine H.zl 2 ?_ | refine H.zm 2 ?_); (try simp only [Act.put, q1_, q2_, q3_]); (try simp only [q4_, q5_, q6_]); refine H.zr 3 ?_; (try simp only [Act.put, q1_, q2_, q3_]); (try simp only [q4_, q5_, q6_]); refine H.zr 4 ?_; (try simp only [Act.put, q1_, q2_, q3_]); (try simp only [q4_, q5_, q6_]); (first | refine H.zm 5 ?_ (hv := by first | with_reducible exact G1 | with_reducible exact G2) | refine H.zl 5 ?_ | refine H.zm 5 ?_); (try simp only [Act.put, q1_, q2_, q3_]); (try simp only [q4_, q5_, q6_]); refine H.zr 6 ?_; (try simp only [Act.put, q1_, q2_, q3_]); (try simp only [q4_, q5_, q6_]); refine held1 7 ?_; unfold Oper.wp; go_simp; (go_at_call 230; (with_reducible refine H.kc (cS _) ?_; clear H; intro w H)); refine H.nx ?_; (try simp only [Act.put, q1_, q2_, q3_]); (try simp only [q4_, q5_, q6_]); refine H.zr 8 ?_; (try simp only [Act.put, q1_, q2_, q3_]); (try simp only [q4_, q5_, q6_]); refine H.zr 9 ?_; (try simp only [Act.put, q1_, q2_, q3_]); (try simp only [q4_, q5_, q6_]); refine H.zr 10 ?_; (try simp only [Act.put, q1_, q2_, q3_]); (try simp only [q4_, q5_, q6_]); refine H.zr 11 ?_; (try simp only [Act.put, q1_, q2_, q3_]); (try simp only [q4_, q5_, q6_]); refine H.zr 12 ?_; (try simp only [Act.put, q1_, q2_, q3_]); (try simp only [q4_, q5_, q6_]); refine wpAnyH_done (by kernel_rfl) ?_ _)
  | (go_at_call 230; (with_reducible refine H.kc (cS _) ?_; clear H; intro w H))
  )
   all_goals
    go_roundw
    case rel => exact ⟨k + 1, by omega, by go_num, rfl, H⟩
    case measure => simp [intOf] <;> omega
  ·obtain rfl : k = 6 := by omega
   rw [← top6.eq_1, limbs_mod] at H
   clear hlt hk
   go_wp2_with (first
  | ((with_reducible refine g6_ rfl rfl ?_); refine H.xb ?_; (intro ga w H; simp only [Act.put, q1_, q2_, q3_]))
  | ((with_reducible refine g10_ rfl rfl ?_); refine H.xb ?_; (intro gb w H; simp only [Act.put, q1_, q2_, q3_]))
  | ((with_reducible refine g4_ rfl rfl ?_); refine H.xa ?_; (intro gr w H; simp only [Act.put, q1_, q2_, q3_]))
  | ((with_reducible refine g9_ rfl rfl ?_); refine H.xa ?_; (intro gs w H; simp only [Act.put, q1_, q2_, q3_]))
  | ((with_reducible refine g0_ rfl ?_); refine H.xb ?_; (intro g w H; simp only [Act.put, q1_, q2_, q3_]))
  | ((with_reducible refine g1_ rfl ?_); refine H.xa ?_; (intro g w H; simp only [Act.put, q1_, q2_, q3_]))
  | ((with_reducible refine g2_ rfl ?_); (first | refine H.xl ?_ | refine H.xm ?_); simp only [Act.put, q1_, q2_, q3_])
  | ((with_reducible refine g3_ rfl ?_); (first | refine H.xs ?_ | refine H.xt ?_); (intro w H; simp only [Act.put]))
  | (go_at_call 230; (with_reducible refine H.kc (cS _) ?_; clear H; intro w H))
  )
   refine bodyPost_ret (results_ct rfl rfl (H.res rW v2_ (ext_limbs _) (by rfl))) rfl ⟨?_, H.below⟩
   rfl
theorem r2Left_any (a : Nat) (x : Int) (w0 : World) (ha : a < top6) :
  CR_ 164 #[W a, .int .i64 x] w0 (.tuple #[W (a * 2 ^ clip x), .bool (decide (top6 ≤ a * 2 ^ clip x))]) := by
 have H := Own.start w0
 have cC := fun w => r2Count_any x w
 obtain ⟨n, hn⟩ : ∃ n, clip x = n := ⟨_, rfl⟩
 have hn4 : n ≤ 384 := by unfold clip at hn; omega
 rw [hn] at cC ⊢
 clear hn
 have HA := Lib.hid ha
 clear ha
 go_enter Tryz.func164, Tryz.ntmps164
 go_wp2_with (first
  | ((with_reducible refine g6_ rfl rfl ?_); refine H.xb ?_; (intro ga w H; simp only [Act.put, q1_, q2_, q3_]))
  | ((with_reducible refine g4_ rfl rfl ?_); refine H.xa ?_; (intro gr w H; simp only [Act.put, q1_, q2_, q3_]))
  | ((with_reducible refine g9_ rfl rfl ?_); refine H.xa ?_; (intro gb w H; simp only [Act.put, q1_, q2_, q3_]))
  | ((with_reducible refine g0_ rfl ?_); refine H.xb ?_; (intro g w H; simp only [Act.put, q1_, q2_, q3_]))
  | ((with_reducible refine g1_ rfl ?_); refine H.xa ?_; (intro g w H; simp only [Act.put, q1_, q2_, q3_]))
  | ((with_reducible refine g2_ rfl ?_); (first | refine H.xl ?_ | refine H.xm ?_); simp only [Act.put, q1_, q2_, q3_])
  | ((with_reducible refine g3_ rfl ?_); (first | refine H.xs ?_ | refine H.xt ?_); (intro w H; simp only [Act.put]))
  | (go_at_call 216; (with_reducible refine H.kc (cC _) ?_; clear H; intro w H))
  | (go_at_call 192; (with_reducible refine H.kc (cB _) ?_; clear H; intro w H))
  )
 go_loopw [7, 8] (fun l i wr => ∃ (k : Nat), k ≤ 384 ∧ i = .int .i64 k ∧ l = .bool (lostLi a n k) ∧ Own w0 wr [(gb, 60, limbs (leftV a n k)), (gr, 60, limbs 0), (ga, 60, limbs a)]) (fun _ i _ => 384 - (intOf i).toNat)
 case atStart => exact ⟨0, by omega, rfl, by rw [lostLi_lo a n 0 (by omega)], by rw [leftV_zero]; exact H⟩
 case round =>
  clear H
  obtain ⟨k, hk, rfl, rfl, H⟩ := hrel
  by_cases hlt : k < 384
  ·have hlti : (k : Int) < 384 := by omega
   have cB := fun w => r2Bit_any a k w hlt
   cases hb : a.testBit k
   ·rw [hb] at cB
    have h1 := Lib.hid (lostLi_f a n k hb)
    have h2 := Lib.hid (leftV_f a n k hb)
    clear hb cC
    go_wp2_with (first
  | ((with_reducible refine g6_ rfl rfl ?_); refine H.xb ?_; (intro ga w H; simp only [Act.put, q1_, q2_, q3_]))
  | ((with_reducible refine g4_ rfl rfl ?_); refine H.xa ?_; (intro gr w H; simp only [Act.put, q1_, q2_, q3_]))
  | ((with_reducible refine g9_ rfl rfl ?_); refine H.xa ?_; (intro gb w H; simp only [Act.put, q1_, q2_, q3_]))
  | ((with_reducible refine g0_ rfl ?_); refine H.xb ?_; (intro g w H; simp only [Act.put, q1_, q2_, q3_]))
  | ((with_reducible refine g1_ rfl ?_); refine H.xa ?_; (intro g w H; simp only [Act.put, q1_, q2_, q3_]))
  | ((with_reducible refine g2_ rfl ?_); (first | refine H.xl ?_ | refine H.xm ?_); simp only [Act.put, q1_, q2_, q3_])
  | ((with_reducible refine g3_ rfl ?_); (first | refine H.xs ?_ | refine H.xt ?_); (intro w H; simp only [Act.put]))
  | (go_at_call 216; (with_reducible refine H.kc (cC _) ?_; clear H; intro w H))
  | (go_at_call 192; (with_reducible refine H.kc (cB _) ?_; clear H; intro w H))
  )
    all_goals
     go_roundw
     case rel => exact ⟨k + 1, by omega, by go_num, by rw [h1.out], by rw [h2.out]; exact H⟩
     case measure => simp [intOf] <;> omega
   ·rw [hb] at cB
    by_cases hnk : k + n < 384
    ·have h1 := Lib.hid (show lostLi a n (k + 1) = lostLi a n k by rw [lostLi_lo a n (k + 1) (by omega), lostLi_lo a n k (by omega)])
     have h2 := Lib.hid (leftV_t a n k hb hnk).1
     have h3 := Lib.hid (leftV_t a n k hb hnk).2
     obtain ⟨j, hj⟩ : ∃ j, k + n = j := ⟨_, rfl⟩
     have e0 : (k : Int) + (n : Int) = (j : Int) := by omega
     have e1 : IntKind.i64.wrap ((k : Int) + (n : Int)) = (j : Int) := by rw [e0]; exact IntWalk.i64_in _ (by omega)
     have hge : (j : Int) < 384 := by omega
     have hge2 : (k : Int) + (n : Int) < 384 := by omega
     obtain ⟨qi, hqi⟩ : ∃ qi : Nat, (j : Int) / 64 = qi := ⟨j / 64, by omega⟩
     obtain ⟨sh, hsh⟩ : ∃ sh : Nat, (j : Int) % 64 = sh := ⟨j % 64, by omega⟩
     have HM := Lib.hid (show j = 64 * qi + sh by omega)
     have hs64 : sh < 64 := by omega
     have hq6 : qi < 6 := by omega
     have hq6i : (qi : Int) < 6 := by omega
     have t1 : IntKind.i64.wrap ((j : Int).tdiv 64) = (qi : Int) := by rw [Int.tdiv_eq_ediv_of_nonneg (by omega), hqi]; exact IntWalk.i64_in _ (by omega)
     have t2 : (j : Int).tmod 64 = (sh : Int) := by rw [Int.tmod_eq_emod_of_nonneg (by omega), hsh]
     have t3 : IntKind.u64.wrap (sh : Int) = (sh : Int) := by rw [IntKind.wrap_u64]; omega
     have t4 : min sh 64 = sh := by omega
     rw [hj] at h2 h3
     obtain ⟨V, hV⟩ : ∃ V, leftV a n k = V := ⟨_, rfl⟩
     rw [hV] at H h2 h3
     have G : (limbs V)[qi]? = some (.int .u64 (limb V qi)) := limbs_get V qi hq6
     clear hV cC hb hj hnk
     go_wp2_with (first
  | ((with_reducible refine g6_ rfl rfl ?_); refine H.xb ?_; (intro ga w H; simp only [Act.put, q1_, q2_, q3_]))
  | ((with_reducible refine g4_ rfl rfl ?_); refine H.xa ?_; (intro gr w H; simp only [Act.put, q1_, q2_, q3_]))
  | ((with_reducible refine g9_ rfl rfl ?_); refine H.xa ?_; (intro gb w H; simp only [Act.put, q1_, q2_, q3_]))
  | ((with_reducible refine g7_ rfl ?_); refine H.xm ?_ (hv := by first | with_reducible exact G); simp only [Act.put, q1_, q2_, q3_])
  | ((with_reducible refine g8_ rfl ?_); refine H.xt ?_ (hv := set_bit_at _ _ _ _ h3.out HM.out hs64 hq6); (intro w H; simp only [Act.put]))
  | ((with_reducible refine g0_ rfl ?_); refine H.xb ?_; (intro g w H; simp only [Act.put, q1_, q2_, q3_]))
  | ((with_reducible refine g1_ rfl ?_); refine H.xa ?_; (intro g w H; simp only [Act.put, q1_, q2_, q3_]))
  | ((with_reducible refine g2_ rfl ?_); (first | refine H.xl ?_ | refine H.xm ?_); simp only [Act.put, q1_, q2_, q3_])
  | ((with_reducible refine g3_ rfl ?_); (first | refine H.xs ?_ | refine H.xt ?_); (intro w H; simp only [Act.put]))
  | (go_at_call 216; (with_reducible refine H.kc (cC _) ?_; clear H; intro w H))
  | (go_at_call 192; (with_reducible refine H.kc (cB _) ?_; clear H; intro w H))
  )
     all_goals
      go_roundw
      case rel => exact ⟨k + 1, by omega, by go_num, by rw [h1.out], by rw [h2.out]; exact H⟩
      case measure => simp [intOf] <;> omega
    ·have h1 := Lib.hid (lostLi_t a n k hb (by omega))
     have h2 := Lib.hid (leftV_o a n k hb (by omega))
     have hge : 384 ≤ (k : Int) + (n : Int) := by omega
     clear cC hb hnk
     go_wp2_with (first
  | ((with_reducible refine g6_ rfl rfl ?_); refine H.xb ?_; (intro ga w H; simp only [Act.put, q1_, q2_, q3_]))
  | ((with_reducible refine g4_ rfl rfl ?_); refine H.xa ?_; (intro gr w H; simp only [Act.put, q1_, q2_, q3_]))
  | ((with_reducible refine g9_ rfl rfl ?_); refine H.xa ?_; (intro gb w H; simp only [Act.put, q1_, q2_, q3_]))
  | ((with_reducible refine g0_ rfl ?_); refine H.xb ?_; (intro g w H; simp only [Act.put, q1_, q2_, q3_]))
  | ((with_reducible refine g1_ rfl ?_); refine H.xa ?_; (intro g w H; simp only [Act.put, q1_, q2_, q3_]))
  | ((with_reducible refine g2_ rfl ?_); (first | refine H.xl ?_ | refine H.xm ?_); simp only [Act.put, q1_, q2_, q3_])
  | ((with_reducible refine g3_ rfl ?_); (first | refine H.xs ?_ | refine H.xt ?_); (intro w H; simp only [Act.put]))
  | (go_at_call 216; (with_reducible refine H.kc (cC _) ?_; clear H; intro w H))
  | (go_at_call 192; (with_reducible refine H.kc (cB _) ?_; clear H; intro w H))
  )
     all_goals
      go_roundw
      case rel => exact ⟨k + 1, by omega, by go_num, by rw [h1.out], by rw [h2.out]; exact H⟩
      case measure => simp [intOf] <;> omega
  ·have hk384 : k = 384 := by omega
   have h1 := Lib.hid (lostLi_all a n k hk384 HA.out hn4)
   rw [leftV_all a n k hk384 HA.out, limbs_mod] at H
   generalize lostLi a n k = l at *
   subst hk384
   clear cC hlt hk
   go_wp2_with (first
  | ((with_reducible refine g6_ rfl rfl ?_); refine H.xb ?_; (intro ga w H; simp only [Act.put, q1_, q2_, q3_]))
  | ((with_reducible refine g4_ rfl rfl ?_); refine H.xa ?_; (intro gr w H; simp only [Act.put, q1_, q2_, q3_]))
  | ((with_reducible refine g9_ rfl rfl ?_); refine H.xa ?_; (intro gb w H; simp only [Act.put, q1_, q2_, q3_]))
  | ((with_reducible refine g0_ rfl ?_); refine H.xb ?_; (intro g w H; simp only [Act.put, q1_, q2_, q3_]))
  | ((with_reducible refine g1_ rfl ?_); refine H.xa ?_; (intro g w H; simp only [Act.put, q1_, q2_, q3_]))
  | ((with_reducible refine g2_ rfl ?_); (first | refine H.xl ?_ | refine H.xm ?_); simp only [Act.put, q1_, q2_, q3_])
  | ((with_reducible refine g3_ rfl ?_); (first | refine H.xs ?_ | refine H.xt ?_); (intro w H; simp only [Act.put]))
  | (go_at_call 216; (with_reducible refine H.kc (cC _) ?_; clear H; intro w H))
  | (go_at_call 192; (with_reducible refine H.kc (cB _) ?_; clear H; intro w H))
  )
   refine bodyPost_ret (results_ct rfl rfl (H.res rW v2_ (ext_limbs _) (by rfl))) rfl ⟨?_, H.below⟩
   rw [h1.out]; rfl
theorem r2Len_any (a : Nat) (w0 : World) (ha : a < top6) :
  CR_ 125 #[W a] w0 (.int .i64 (lenN a : Nat)) := by
 have H := Own.start w0
 have HA := Lib.hid ha
 clear ha
 go_enter Tryz.func125, Tryz.ntmps125
 go_wp2_with (first
  | ((with_reducible refine g11_ rfl rfl ?_); refine H.xb ?_; (intro ga w H; simp only [Act.put, q1_, q2_, q3_]))
  | ((with_reducible refine g0_ rfl ?_); refine H.xb ?_; (intro g w H; simp only [Act.put, q1_, q2_, q3_]))
  | ((with_reducible refine g1_ rfl ?_); refine H.xa ?_; (intro g w H; simp only [Act.put, q1_, q2_, q3_]))
  | ((with_reducible refine g2_ rfl ?_); (first | refine H.xl ?_ | refine H.xm ?_); simp only [Act.put, q1_, q2_, q3_])
  | ((with_reducible refine g3_ rfl ?_); (first | refine H.xs ?_ | refine H.xt ?_); (intro w H; simp only [Act.put]))
  | (go_at_call 191; (with_reducible refine H.kc (cL _) ?_; clear H; intro w H))
  )
 go_loopw [3] (fun i wr => ∃ (k : Nat) (e : Int), e + 1 = k ∧ k ≤ 6 ∧ i = .int .i64 e ∧ Hid (a < 2 ^ (64 * k)) ∧ Own w0 wr [(ga, 60, limbs a)]) (fun i _ => (intOf i + 1).toNat)
 case atStart => exact ⟨6, 5, by omega, by omega, rfl, Lib.hid (by rw [← top6.eq_1]; exact HA.out), H⟩
 case round =>
  clear H
  obtain ⟨k, e, hke, hk, rfl, hT, H⟩ := hrel
  by_cases h0 : k = 0
  ·subst h0
   obtain rfl : e = -1 := by omega
   have hz : a = 0 := by have := hT.out; rw [Nat.mul_zero, Nat.pow_zero] at this; omega
   subst hz
   go_wp2_with (first
  | ((with_reducible refine g11_ rfl rfl ?_); refine H.xb ?_; (intro ga w H; simp only [Act.put, q1_, q2_, q3_]))
  | ((with_reducible refine g0_ rfl ?_); refine H.xb ?_; (intro g w H; simp only [Act.put, q1_, q2_, q3_]))
  | ((with_reducible refine g1_ rfl ?_); refine H.xa ?_; (intro g w H; simp only [Act.put, q1_, q2_, q3_]))
  | ((with_reducible refine g2_ rfl ?_); (first | refine H.xl ?_ | refine H.xm ?_); simp only [Act.put, q1_, q2_, q3_])
  | ((with_reducible refine g3_ rfl ?_); (first | refine H.xs ?_ | refine H.xt ?_); (intro w H; simp only [Act.put]))
  | (go_at_call 191; (with_reducible refine H.kc (cL _) ?_; clear H; intro w H))
  )
   go_ret
   exact ⟨rfl, H.below⟩
  ·obtain ⟨m, rfl⟩ : ∃ m, k = m + 1 := ⟨k - 1, by omega⟩
   obtain rfl : e = (m : Int) := by omega
   have hm : m < 6 := by omega
   have hmi : (m : Int) < 6 := by omega
   have hm0 : (0 : Int) ≤ (m : Int) := by omega
   have G : (limbs a)[m]? = some (.int .u64 (limb a m)) := limbs_get a m hm
   by_cases hz : limbN a m = 0
   ·have h1 := Lib.hid (top_zero a m hT.out hz)
    have z : limb a m = 0 := by unfold limb; rw [hz]; rfl
    rw [z] at G
    clear hT hz h0
    go_wp2_with (first
  | ((with_reducible refine g11_ rfl rfl ?_); refine H.xb ?_; (intro ga w H; simp only [Act.put, q1_, q2_, q3_]))
  | ((with_reducible refine g7_ rfl ?_); refine H.xm ?_ (hv := by first | with_reducible exact G); simp only [Act.put, q1_, q2_, q3_])
  | ((with_reducible refine g0_ rfl ?_); refine H.xb ?_; (intro g w H; simp only [Act.put, q1_, q2_, q3_]))
  | ((with_reducible refine g1_ rfl ?_); refine H.xa ?_; (intro g w H; simp only [Act.put, q1_, q2_, q3_]))
  | ((with_reducible refine g2_ rfl ?_); (first | refine H.xl ?_ | refine H.xm ?_); simp only [Act.put, q1_, q2_, q3_])
  | ((with_reducible refine g3_ rfl ?_); (first | refine H.xs ?_ | refine H.xt ?_); (intro w H; simp only [Act.put]))
  | (go_at_call 191; (with_reducible refine H.kc (cL _) ?_; clear H; intro w H))
  )
    all_goals
     go_roundw
     case rel => exact ⟨m, (m : Int) - 1, by omega, by omega, by go_num, h1, H⟩
     case measure => simp [intOf] <;> omega
   ·have h1 := Lib.hid (lenN_top a m hT.out hz)
    have cL := fun w => r1Len_any (limbN a m) w (limbN_lt a m)
    have hl : ((limbN a m : Nat) : Int) = limb a m := rfl
    rw [hl] at cL
    have z : (limb a m != 0) = true := by unfold limb; simpa using hz
    have hb : lenN (limbN a m) ≤ 64 := (lenN_le _ _).2 (by rw [← B64]; exact limbN_lt a m)
    generalize lenN (limbN a m) = l at *
    clear hT hz h0 hl
    go_wp2_with (first
  | ((with_reducible refine g11_ rfl rfl ?_); refine H.xb ?_; (intro ga w H; simp only [Act.put, q1_, q2_, q3_]))
  | ((with_reducible refine g7_ rfl ?_); refine H.xm ?_ (hv := by first | with_reducible exact G); simp only [Act.put, q1_, q2_, q3_])
  | ((with_reducible refine g0_ rfl ?_); refine H.xb ?_; (intro g w H; simp only [Act.put, q1_, q2_, q3_]))
  | ((with_reducible refine g1_ rfl ?_); refine H.xa ?_; (intro g w H; simp only [Act.put, q1_, q2_, q3_]))
  | ((with_reducible refine g2_ rfl ?_); (first | refine H.xl ?_ | refine H.xm ?_); simp only [Act.put, q1_, q2_, q3_])
  | ((with_reducible refine g3_ rfl ?_); (first | refine H.xs ?_ | refine H.xt ?_); (intro w H; simp only [Act.put]))
  | (go_at_call 191; (with_reducible refine H.kc (cL _) ?_; clear H; intro w H))
  )
    go_ret
    exact ⟨by rw [h1.out]; first | rfl | go_num, H.below⟩
section
variable {P : Program} {w : World} {op : Oper} {a : Act} {Q : Exit → Act → World → Prop} {ops : Array Oper} {rest : List Oper}
theorem run_build {t : TypeId} {n : Nat} {z : Array Value} {fs : Array Field} {places : Array (Nat × Nat)} (R : IsRow P t n z) (hu : P.underlying t = some (.struct fs))
  (hp : (fs.mapM fun f => do pure (f.offset, ← sizeOf f.type) : Sem (Array (Nat × Nat))).run P w = .ok places w) (ps : Array (Nat × Value)) (cs : Array Value) (hf : Instr.fill (places[·]?) z ps.toList = some cs) :
  (Instr.build t ps).run P w = .ok (.agg cs) w := by
 have hz := run_zeroValue R.zero w
 unfold Instr.build
 simp only [Sem.run_bind, hz, Result.andThen_ok, run_underlying hu, hp, Value.cells, hf]
 rfl
theorem fill_step (place : Nat → Option (Nat × Nat)) (cells : Array Value) (i off size : Nat) (v : Value) (rest : List (Nat × Value)) (hp : place i = some (off, size)) (h1 : v.cells.size = size) (h2 : off + size ≤ cells.size) :
  Instr.fill place cells ((i, v) :: rest) = Instr.fill place (setRow cells off v.cells.toList) rest := by
 rw [Instr.fill]
 simp only [hp]
 rw [if_neg (by simp [h1]; omega), foldl_cells]
theorem wp_bld {t : TypeId} {ps : Array (Nat × Operand)} (hw : Region.wanted op (yielded ops a.tmps) = true) (ho : op.op = .build t ps) {vs : Array (Nat × Value)} (hvs : (ps.map fun (i, x) => (i, a.eval x)) = vs) {v : Value}
  (hv : ∀ w, (Instr.build t vs).run P w = .ok v w) (h : wpList P ops Q rest (a.put op.dst v) w) : wpList P ops Q (op :: rest) a w := by
 refine wp_wanted hw fun K hK => ?_
 subst hvs
 have hk := hK _ _ h
 unfold Oper.wp execOp
 simp only [ho, Sem.run_bind, hv, Result.andThen_ok]
 exact hk
theorem wp_bld2 {t : TypeId} {i j : Nat} {x y : Operand} (hw : Region.wanted op (yielded ops a.tmps) = true) (ho : op.op = .build t #[(i, x), (j, y)]) {u1 u2 : Value} (h1 : a.eval x = u1) (h2 : a.eval y = u2) {v : Value}
  (hv : ∀ w, (Instr.build t #[(i, u1), (j, u2)]).run P w = .ok v w) (h : wpList P ops Q rest (a.put op.dst v) w) : wpList P ops Q (op :: rest) a w :=
 wp_bld hw ho (by simp [h1, h2]) hv h
theorem wp_bld3 {t : TypeId} {i j k : Nat} {x y z : Operand} (hw : Region.wanted op (yielded ops a.tmps) = true) (ho : op.op = .build t #[(i, x), (j, y), (k, z)]) {u1 u2 u3 : Value} (h1 : a.eval x = u1) (h2 : a.eval y = u2) (h3 : a.eval z = u3) {v : Value}
  (hv : ∀ w, (Instr.build t #[(i, u1), (j, u2), (k, u3)]).run P w = .ok v w) (h : wpList P ops Q rest (a.put op.dst v) w) : wpList P ops Q (op :: rest) a w :=
 wp_bld hw ho (by simp [h1, h2, h3]) hv h
theorem wp_bld4 {t : TypeId} {i j k l : Nat} {x y z q : Operand} (hw : Region.wanted op (yielded ops a.tmps) = true) (ho : op.op = .build t #[(i, x), (j, y), (k, z), (l, q)]) {u1 u2 u3 u4 : Value} (h1 : a.eval x = u1) (h2 : a.eval y = u2) (h3 : a.eval z = u3) (h4 : a.eval q = u4) {v : Value}
  (hv : ∀ w, (Instr.build t #[(i, u1), (j, u2), (k, u3), (l, u4)]).run P w = .ok v w) (h : wpList P ops Q rest (a.put op.dst v) w) : wpList P ops Q (op :: rest) a w :=
 wp_bld hw ho (by simp [h1, h2, h3, h4]) hv h
theorem exec_bld {t : TypeId} {ps : Array (Nat × Operand)} (ho : op.op = .build t ps) {vs : Array (Nat × Value)} (hvs : (ps.map fun (i, x) => (i, a.eval x)) = vs) {v : Value}
  (hv : ∀ w, (Instr.build t vs).run P w = .ok v w) (w : World) : (execOp a.eval op).run P w = .ok (.value v) w := by
 subst hvs
 unfold execOp
 simp only [ho, Sem.run_bind, hv, Result.andThen_ok]
 rfl
theorem exec_bld3 {t : TypeId} {i j k : Nat} {x y z : Operand} (ho : op.op = .build t #[(i, x), (j, y), (k, z)]) {u1 u2 u3 : Value} (h1 : a.eval x = u1) (h2 : a.eval y = u2) (h3 : a.eval z = u3) {v : Value}
  (hv : ∀ w, (Instr.build t #[(i, u1), (j, u2), (k, u3)]).run P w = .ok v w) (w : World) : (execOp a.eval op).run P w = .ok (.value v) w := exec_bld ho (by simp [h1, h2, h3]) hv w
end
def roughAt : Array (Nat × Nat) := #[(0, 1), (1, 6), (7, 1), (8, 1)]
theorem rough_0 (neg : Bool) (s : Nat) (e : Int) (mo neg' : Bool) (rest : List (Nat × Value)) : Instr.fill (roughAt[·]?) (rough neg s e mo) ((0, .bool neg') :: rest) = Instr.fill (roughAt[·]?) (rough neg' s e mo) rest := fill_step _ _ 0 0 1 _ _ rfl rfl (show 0 + 1 ≤ 9 by decide)
theorem rough_1 (neg : Bool) (s : Nat) (e : Int) (mo : Bool) (s' : Nat) (rest : List (Nat × Value)) : Instr.fill (roughAt[·]?) (rough neg s e mo) ((1, W s') :: rest) = Instr.fill (roughAt[·]?) (rough neg s' e mo) rest := fill_step _ _ 1 1 6 _ _ rfl rfl (show 1 + 6 ≤ 9 by decide)
theorem rough_2 (neg : Bool) (s : Nat) (e : Int) (mo : Bool) (e' : Int) (rest : List (Nat × Value)) : Instr.fill (roughAt[·]?) (rough neg s e mo) ((2, .int .i64 e') :: rest) = Instr.fill (roughAt[·]?) (rough neg s e' mo) rest := fill_step _ _ 2 7 1 _ _ rfl rfl (show 7 + 1 ≤ 9 by decide)
theorem places_rough (w : World) : ∃ fs, Tryz.prog.underlying 83 = some (.struct fs) ∧ (fs.mapM fun f => do pure (f.offset, ← sizeOf f.type) : Sem (Array (Nat × Nat))).run Tryz.prog w = .ok roughAt w := by
 refine ⟨_, Tryz.underlying83, ?_⟩
 unfold roughAt
 go_simp
theorem run_rough (w : World) (ps : Array (Nat × Value)) (cs : Array Value) (hf : Instr.fill (roughAt[·]?) (rough false 0 0 false) ps.toList = some cs) : (Instr.build 83 ps).run Tryz.prog w = .ok (.agg cs) w := by
 obtain ⟨fs, hu, hp⟩ := places_rough w
 exact run_build rR hu hp ps cs hf
theorem rough_nse (neg : Bool) (s : Nat) (e : Int) (w : World) : (Instr.build 83 #[(0, .bool neg), (1, W s), (2, .int .i64 e)]).run Tryz.prog w = .ok (RV neg s e false) w :=
 run_rough w _ _ (by show Instr.fill _ _ [_, _, _] = _; rw [rough_0, rough_1, rough_2]; rfl)
theorem rough_ne (neg : Bool) (e : Int) (w : World) : (Instr.build 83 #[(0, .bool neg), (2, .int .i64 e)]).run Tryz.prog w = .ok (RV neg 0 e false) w :=
 run_rough w _ _ (by show Instr.fill _ _ [_, _] = _; rw [rough_0, rough_2]; rfl)
def partsAt : Array (Nat × Nat) := #[(0, 1), (1, 6), (7, 1), (8, 6)]
theorem places_parts (w : World) : ∃ fs, Tryz.prog.underlying 100 = some (.struct fs) ∧ (fs.mapM fun f => do pure (f.offset, ← sizeOf f.type) : Sem (Array (Nat × Nat))).run Tryz.prog w = .ok partsAt w := by
 refine ⟨_, Tryz.underlying100, ?_⟩
 unfold partsAt
 go_simp
theorem parts_0 (c s : Nat) (x : Int) (f c' : Nat) (rest : List (Nat × Value)) : Instr.fill (partsAt[·]?) (parts c s x f) ((0, .int .u8 c') :: rest) = Instr.fill (partsAt[·]?) (parts c' s x f) rest := fill_step _ _ 0 0 1 _ _ rfl rfl (show 0 + 1 ≤ 14 by decide)
theorem parts_c (c : Nat) (w : World) : (Instr.build 100 #[(0, .int .u8 c)]).run Tryz.prog w = .ok (PV c 0 0 0) w := by
 obtain ⟨fs, hu, hp⟩ := places_parts w
 exact run_build rP hu hp _ _ (by show Instr.fill _ _ [_] = _; rw [parts_0]; rfl)
theorem wp_bld1 {P : Program} {op : Oper} {a : Act} {Q : Exit → Act → World → Prop} {ops : Array Oper} {rest : List Oper} {w : World} {t : TypeId} {i : Nat} {x : Operand} (hw : Region.wanted op (yielded ops a.tmps) = true) (ho : op.op = .build t #[(i, x)]) {u1 : Value} (h1 : a.eval x = u1) {v : Value}
  (hv : ∀ w, (Instr.build t #[(i, u1)]).run P w = .ok v w) (h : wpList P ops Q rest (a.put op.dst v) w) : wpList P ops Q (op :: rest) a w :=
 wp_bld hw ho (by simp [h1]) hv h
theorem set_pwR (a b : Nat) (x : Int) (d c s : Nat) (y : Int) (f : Nat) : setRow (parts a b x d) 0 (parts c s y f).toList = parts c s y f := set_all _ _ rfl
theorem fits_len (f b : Nat) (hf : f < 4) : decide (lenN b ≤ wF f) = fitsB f b := by
 unfold fitsB; rw [decide_eq_true hf, Bool.true_and, decide_eq_decide]; exact lenN_le b _
theorem sign_normal (f b : Nat) (h : clsN f b = 1 ∨ clsN f b = 6) : sigN f b = 2 ^ (pF f - 1) + b % 2 ^ (pF f - 1) ∧ frN f b = 0 := by
 unfold sigN frN; rw [if_pos h, if_neg (by omega), Nat.add_comm]; exact ⟨rfl, rfl⟩
theorem r7Fits_no (f b : Nat) (w : World) (cR : CK_ 62 #[.int .u8 f] (.bool false)) :
  CR_ 48 #[.int .u8 f, BV b] w (.bool false) := by
 have H := Own.start w
 go_enter Tryz.func48, Tryz.ntmps48
 exact walk4
theorem r7Fits_yes (f b l n : Nat) (w : World) (cR : CK_ 62 #[.int .u8 f] (.bool true)) (cO : CK_ 126 #[BV b] (W b)) (cL : CK_ 125 #[W b] (.int .i64 (l : Nat))) (cW : CK_ 127 #[.int .u8 f] (.int .i64 (n : Nat))) :
  CR_ 48 #[.int .u8 f, BV b] w (.bool (decide (l ≤ n))) := by
 have H := Own.start w
 go_enter Tryz.func48, Tryz.ntmps48
 exact walk4
theorem r7Fits_any (f b : Nat) (w : World) (hb : b < 2 ^ (64 * 2)) :
  CR_ 48 #[.int .u8 f, BV b] w (.bool (fitsB f b)) := by
 have cR := fun w => r7Right_any f w
 by_cases hf : f < 4
 ·rw [decide_eq_true hf] at cR
  have h := r7Fits_yes f b (lenN b) (wF f) w cR (fun w => r2OfBits_any b w hb) (fun w => r2Len_any b w (lt_top_bits b hb)) (fun w => r7Width_any f w)
  rw [fits_len f b hf] at h
  exact h
 ·rw [decide_eq_false hf] at cR
  rw [show fitsB f b = false by unfold fitsB; rw [decide_eq_false hf]; rfl]
  exact r7Fits_no f b w cR
theorem r8IsNaN_w (f b c : Nat) (w : World) (cC : CK_ 129 #[.int .u8 f, BV b] (.int .u8 (c : Nat))) :
  CR_ 51 #[.int .u8 f, BV b] w (.bool (decide (8 ≤ (c : Int)))) := by
 have H := Own.start w
 go_enter Tryz.func51, Tryz.ntmps51
 exact walk4
theorem r8IsNaN_any (f b : Nat) (w : World) (hf : f < 4) (hb : b < 2 ^ (64 * 2)) :
  CR_ 51 #[.int .u8 f, BV b] w (.bool (nanB (clsN f b))) := by
 have h := r8IsNaN_w f b _ w (fun w => r8Class_any f b w hf hb)
 rw [show decide (8 ≤ (clsN f b : Int)) = nanB (clsN f b) by unfold nanB; rw [decide_eq_decide]; omega] at h
 exact h
theorem r8Sign_no (f b : Nat) (w : World) (cT : CK_ 48 #[.int .u8 f, BV b] (.bool false)) :
  CR_ 50 #[.int .u8 f, BV b] w (.bool false) := by
 have H := Own.start w
 go_enter Tryz.func50, Tryz.ntmps50
 exact walk4
theorem r8Sign_yes (f b e0 t : Nat) (neg : Bool) (w : World) (cT : CK_ 48 #[.int .u8 f, BV b] (.bool true)) (cF : CK_ 128 #[.int .u8 f, BV b] (.tuple #[.bool neg, .int .i64 (e0 : Nat), W t])) :
  CR_ 50 #[.int .u8 f, BV b] w (.bool neg) := by
 have H := Own.start w
 go_enter Tryz.func50, Tryz.ntmps50
 exact walk4
theorem r8Sign_any (f b : Nat) (w : World) (hb : b < 2 ^ (64 * 2)) :
  CR_ 50 #[.int .u8 f, BV b] w (.bool (fitsB f b && negN f b)) := by
 have cT := fun w => r7Fits_any f b w hb
 cases h : fitsB f b
 ·rw [h] at cT; exact r8Sign_no f b w cT
 ·rw [h] at cT
  have hf := ((fits_iff f b).1 h).1
  exact r8Sign_yes f b _ _ _ w cT (fun w => r7Fields_any f b w hf hb)
theorem r8Unpack_8 (f b c e0 t p m s u : Nat) (em : Int) (neg lo ca : Bool) (w : World) (hp : p ≤ 113) (h1p : 1 ≤ p) (hm : m ≤ 20000) (he : e0 ≤ 40000) (hem : -20000 ≤ em) (hem2 : em ≤ 20000) (q8 : ((c : Int) == 8) = true) (cC : CK_ 129 #[.int .u8 f, BV b] (.int .u8 (c : Nat))) (cF : CK_ 128 #[.int .u8 f, BV b] (.tuple #[.bool neg, .int .i64 (e0 : Nat), W t])) (cP : CK_ 166 #[.int .u8 f] (.int .i64 (p : Nat)))  :
  CR_ 169 #[.int .u8 f, BV b] w (PV c 0 0 t) := by
 have H := Own.start w
 go_enter Tryz.func169, Tryz.ntmps169
 exact walk4
theorem r8Unpack_9 (f b c e0 t p m s u : Nat) (em : Int) (neg lo ca : Bool) (w : World) (hp : p ≤ 113) (h1p : 1 ≤ p) (hm : m ≤ 20000) (he : e0 ≤ 40000) (hem : -20000 ≤ em) (hem2 : em ≤ 20000) (q8 : ((c : Int) == 8) = false) (q9 : ((c : Int) == 9) = true) (cC : CK_ 129 #[.int .u8 f, BV b] (.int .u8 (c : Nat))) (cF : CK_ 128 #[.int .u8 f, BV b] (.tuple #[.bool neg, .int .i64 (e0 : Nat), W t])) (cP : CK_ 166 #[.int .u8 f] (.int .i64 (p : Nat)))  :
  CR_ 169 #[.int .u8 f, BV b] w (PV c 0 0 t) := by
 have H := Own.start w
 go_enter Tryz.func169, Tryz.ntmps169
 exact walk4
theorem r8Unpack_2 (f b c e0 t p m s u : Nat) (em : Int) (neg lo ca : Bool) (w : World) (hp : p ≤ 113) (h1p : 1 ≤ p) (hm : m ≤ 20000) (he : e0 ≤ 40000) (hem : -20000 ≤ em) (hem2 : em ≤ 20000) (q8 : ((c : Int) == 8) = false) (q9 : ((c : Int) == 9) = false) (q2 : ((c : Int) == 2) = true) (cC : CK_ 129 #[.int .u8 f, BV b] (.int .u8 (c : Nat))) (cF : CK_ 128 #[.int .u8 f, BV b] (.tuple #[.bool neg, .int .i64 (e0 : Nat), W t])) (cP : CK_ 166 #[.int .u8 f] (.int .i64 (p : Nat))) (cE : CK_ 210 #[.int .u8 f] (.int .i64 em))  :
  CR_ 169 #[.int .u8 f, BV b] w (PV c t (em - (p : Int) + 1) 0) := by
 have H := Own.start w
 go_enter Tryz.func169, Tryz.ntmps169
 exact walk4
theorem r8Unpack_5 (f b c e0 t p m s u : Nat) (em : Int) (neg lo ca : Bool) (w : World) (hp : p ≤ 113) (h1p : 1 ≤ p) (hm : m ≤ 20000) (he : e0 ≤ 40000) (hem : -20000 ≤ em) (hem2 : em ≤ 20000) (q8 : ((c : Int) == 8) = false) (q9 : ((c : Int) == 9) = false) (q2 : ((c : Int) == 2) = false) (q5 : ((c : Int) == 5) = true) (cC : CK_ 129 #[.int .u8 f, BV b] (.int .u8 (c : Nat))) (cF : CK_ 128 #[.int .u8 f, BV b] (.tuple #[.bool neg, .int .i64 (e0 : Nat), W t])) (cP : CK_ 166 #[.int .u8 f] (.int .i64 (p : Nat))) (cE : CK_ 210 #[.int .u8 f] (.int .i64 em))  :
  CR_ 169 #[.int .u8 f, BV b] w (PV c t (em - (p : Int) + 1) 0) := by
 have H := Own.start w
 go_enter Tryz.func169, Tryz.ntmps169
 exact walk4
theorem r8Unpack_1 (f b c e0 t p m s u : Nat) (em : Int) (neg lo ca : Bool) (w : World) (hp : p ≤ 113) (h1p : 1 ≤ p) (hm : m ≤ 20000) (he : e0 ≤ 40000) (hem : -20000 ≤ em) (hem2 : em ≤ 20000) (q8 : ((c : Int) == 8) = false) (q9 : ((c : Int) == 9) = false) (q2 : ((c : Int) == 2) = false) (q5 : ((c : Int) == 5) = false) (q1 : ((c : Int) == 1) = true) (cC : CK_ 129 #[.int .u8 f, BV b] (.int .u8 (c : Nat))) (cF : CK_ 128 #[.int .u8 f, BV b] (.tuple #[.bool neg, .int .i64 (e0 : Nat), W t])) (cP : CK_ 166 #[.int .u8 f] (.int .i64 (p : Nat))) (cX : CK_ 178 #[.int .u8 f] (.int .i64 (m : Nat))) (cO : CK_ 165 #[.int .u64 1] (W 1)) (cL : CK_ 164 #[W 1, .int .i64 ((p : Int) - 1)] (.tuple #[W s, .bool lo])) (cA : CK_ 217 #[W s, W t] (.tuple #[W u, .bool ca]))  :
  CR_ 169 #[.int .u8 f, BV b] w (PV c u ((e0 : Int) - (m : Int) - (p : Int) + 1) 0) := by
 have H := Own.start w
 go_enter Tryz.func169, Tryz.ntmps169
 exact walk4
theorem r8Unpack_6 (f b c e0 t p m s u : Nat) (em : Int) (neg lo ca : Bool) (w : World) (hp : p ≤ 113) (h1p : 1 ≤ p) (hm : m ≤ 20000) (he : e0 ≤ 40000) (hem : -20000 ≤ em) (hem2 : em ≤ 20000) (q8 : ((c : Int) == 8) = false) (q9 : ((c : Int) == 9) = false) (q2 : ((c : Int) == 2) = false) (q5 : ((c : Int) == 5) = false) (q1 : ((c : Int) == 1) = false) (q6 : ((c : Int) == 6) = true) (cC : CK_ 129 #[.int .u8 f, BV b] (.int .u8 (c : Nat))) (cF : CK_ 128 #[.int .u8 f, BV b] (.tuple #[.bool neg, .int .i64 (e0 : Nat), W t])) (cP : CK_ 166 #[.int .u8 f] (.int .i64 (p : Nat))) (cX : CK_ 178 #[.int .u8 f] (.int .i64 (m : Nat))) (cO : CK_ 165 #[.int .u64 1] (W 1)) (cL : CK_ 164 #[W 1, .int .i64 ((p : Int) - 1)] (.tuple #[W s, .bool lo])) (cA : CK_ 217 #[W s, W t] (.tuple #[W u, .bool ca]))  :
  CR_ 169 #[.int .u8 f, BV b] w (PV c u ((e0 : Int) - (m : Int) - (p : Int) + 1) 0) := by
 have H := Own.start w
 go_enter Tryz.func169, Tryz.ntmps169
 exact walk4
theorem r8Unpack_0 (f b c e0 t p m s u : Nat) (em : Int) (neg lo ca : Bool) (w : World) (hp : p ≤ 113) (h1p : 1 ≤ p) (hm : m ≤ 20000) (he : e0 ≤ 40000) (hem : -20000 ≤ em) (hem2 : em ≤ 20000) (q8 : ((c : Int) == 8) = false) (q9 : ((c : Int) == 9) = false) (q2 : ((c : Int) == 2) = false) (q5 : ((c : Int) == 5) = false) (q1 : ((c : Int) == 1) = false) (q6 : ((c : Int) == 6) = false) (cC : CK_ 129 #[.int .u8 f, BV b] (.int .u8 (c : Nat))) (cF : CK_ 128 #[.int .u8 f, BV b] (.tuple #[.bool neg, .int .i64 (e0 : Nat), W t])) (cP : CK_ 166 #[.int .u8 f] (.int .i64 (p : Nat)))  :
  CR_ 169 #[.int .u8 f, BV b] w (PV c 0 0 0) := by
 have H := Own.start w
 go_enter Tryz.func169, Tryz.ntmps169
 exact walk4
theorem r8Unpack_any (f b : Nat) (w : World) (hf : f < 4) (hb : b < 2 ^ (64 * 2)) :
  CR_ 169 #[.int .u8 f, BV b] w (PV (clsN f b) (sigN f b) (xpN f b) (frN f b)) := by
 obtain ⟨p1, p2, -, -, -, -⟩ := formB f hf
 obtain ⟨-, -, -, k4, k5, k6, -, -⟩ := formK f hf
 have he := expN_lt f b hf
 have cC := fun w => r8Class_any f b w hf hb
 have cF := fun w => r7Fields_any f b w hf hb
 have cP := fun w => r7Precision_any f w
 have cE := fun w => r7Emin_any f w
 have cX := fun w => r7Emax_any f w
 have cO := fun w => r2Of_any 1 w (by decide)
 have cL := fun w => r2Left_any 1 ((pF f : Int) - 1) w (lt_top_bits 1 (by decide))
 rw [show clip ((pF f : Int) - 1) = pF f - 1 by unfold clip; omega, Nat.one_mul] at cL
 have cA := fun w => r2Add_any (2 ^ (pF f - 1)) (b % 2 ^ (pF f - 1)) w
 have key : ∀ c, clsN f b = c → c ≤ 9 → CR_ 169 #[.int .u8 f, BV b] w (PV (clsN f b) (sigN f b) (xpN f b) (frN f b)) := by
  intro c hc h9
  rw [hc] at cC
  have hx0 : (clsN f b = 2 ∨ clsN f b = 5) → expN f b = 0 := by
   intro h
   unfold clsN at h
   by_cases h1 : expN f b = 2 * eF f + 1
   ·rw [if_pos h1] at h
    split at h
    ·cases hn : b.testBit (wF f - 1) <;> rw [hn] at h <;> simp at h
    ·cases hn : (b % 2 ^ (pF f - 1)).testBit (pF f - 2) <;> rw [hn] at h <;> simp at h
   ·rw [if_neg h1] at h
    by_cases h2 : expN f b = 0
    ·exact h2
    ·rw [if_neg h2] at h
     cases hn : b.testBit (wF f - 1) <;> rw [hn] at h <;> simp at h
  obtain rfl | rfl | rfl | rfl | rfl | rfl | rfl | rfl | rfl | rfl : c = 0 ∨ c = 1 ∨ c = 2 ∨ c = 3 ∨ c = 4 ∨ c = 5 ∨ c = 6 ∨ c = 7 ∨ c = 8 ∨ c = 9 := by omega
  ·have h := r8Unpack_0 f b 0 (expN f b) (b % 2 ^ (pF f - 1)) (pF f) (eF f) 0 0 (eminI f) _ false false w p2 (by omega) (by omega) (by omega) (by omega) (by omega) (int_eq_false _ _ (by decide)) (int_eq_false _ _ (by decide)) (int_eq_false _ _ (by decide)) (int_eq_false _ _ (by decide)) (int_eq_false _ _ (by decide)) (int_eq_false _ _ (by decide)) cC cF cP
   have e1 : sigN f b = 0 := by unfold sigN; rw [if_neg (by omega), if_neg (by omega)]
   have e2 : xpN f b = 0 := by unfold xpN; rw [if_neg (by omega), if_neg (by omega)]
   have e3 : frN f b = 0 := by unfold frN; rw [if_neg (by omega)]
   rw [hc, e1, e2, e3]; exact h
  ·have h := r8Unpack_1 f b 1 (expN f b) (b % 2 ^ (pF f - 1)) (pF f) (eF f) _ _ (eminI f) _ _ _ w p2 (by omega) (by omega) (by omega) (by omega) (by omega) (int_eq_false _ _ (by decide)) (int_eq_false _ _ (by decide)) (int_eq_false _ _ (by decide)) (int_eq_false _ _ (by decide)) (int_eq_true _ _ (by decide)) cC cF cP cX cO cL cA
   have e1 : xpN f b = (expN f b : Int) - (eF f : Int) - (pF f : Int) + 1 := by unfold xpN; rw [if_pos (by omega)]; omega
   obtain ⟨e2, e3⟩ := sign_normal f b (by omega)
   rw [hc, e1, e2, e3]; exact h
  ·have h := r8Unpack_2 f b 2 (expN f b) (b % 2 ^ (pF f - 1)) (pF f) (eF f) 0 0 (eminI f) _ false false w p2 (by omega) (by omega) (by omega) (by omega) (by omega) (int_eq_false _ _ (by decide)) (int_eq_false _ _ (by decide)) (int_eq_true _ _ (by decide)) cC cF cP cE
   have e1 : xpN f b = eminI f - (pF f : Int) + 1 := by unfold xpN; rw [if_neg (by omega), if_pos (by omega), hx0 (by omega)]; omega
   have e2 : sigN f b = b % 2 ^ (pF f - 1) := by unfold sigN; rw [if_neg (by omega), if_pos (by omega)]
   have e3 : frN f b = 0 := by unfold frN; rw [if_neg (by omega)]
   rw [hc, e1, e2, e3]; exact h
  ·have h := r8Unpack_0 f b 3 (expN f b) (b % 2 ^ (pF f - 1)) (pF f) (eF f) 0 0 (eminI f) _ false false w p2 (by omega) (by omega) (by omega) (by omega) (by omega) (int_eq_false _ _ (by decide)) (int_eq_false _ _ (by decide)) (int_eq_false _ _ (by decide)) (int_eq_false _ _ (by decide)) (int_eq_false _ _ (by decide)) (int_eq_false _ _ (by decide)) cC cF cP
   have e1 : sigN f b = 0 := by unfold sigN; rw [if_neg (by omega), if_neg (by omega)]
   have e2 : xpN f b = 0 := by unfold xpN; rw [if_neg (by omega), if_neg (by omega)]
   have e3 : frN f b = 0 := by unfold frN; rw [if_neg (by omega)]
   rw [hc, e1, e2, e3]; exact h
  ·have h := r8Unpack_0 f b 4 (expN f b) (b % 2 ^ (pF f - 1)) (pF f) (eF f) 0 0 (eminI f) _ false false w p2 (by omega) (by omega) (by omega) (by omega) (by omega) (int_eq_false _ _ (by decide)) (int_eq_false _ _ (by decide)) (int_eq_false _ _ (by decide)) (int_eq_false _ _ (by decide)) (int_eq_false _ _ (by decide)) (int_eq_false _ _ (by decide)) cC cF cP
   have e1 : sigN f b = 0 := by unfold sigN; rw [if_neg (by omega), if_neg (by omega)]
   have e2 : xpN f b = 0 := by unfold xpN; rw [if_neg (by omega), if_neg (by omega)]
   have e3 : frN f b = 0 := by unfold frN; rw [if_neg (by omega)]
   rw [hc, e1, e2, e3]; exact h
  ·have h := r8Unpack_5 f b 5 (expN f b) (b % 2 ^ (pF f - 1)) (pF f) (eF f) 0 0 (eminI f) _ false false w p2 (by omega) (by omega) (by omega) (by omega) (by omega) (int_eq_false _ _ (by decide)) (int_eq_false _ _ (by decide)) (int_eq_false _ _ (by decide)) (int_eq_true _ _ (by decide)) cC cF cP cE
   have e1 : xpN f b = eminI f - (pF f : Int) + 1 := by unfold xpN; rw [if_neg (by omega), if_pos (by omega), hx0 (by omega)]; omega
   have e2 : sigN f b = b % 2 ^ (pF f - 1) := by unfold sigN; rw [if_neg (by omega), if_pos (by omega)]
   have e3 : frN f b = 0 := by unfold frN; rw [if_neg (by omega)]
   rw [hc, e1, e2, e3]; exact h
  ·have h := r8Unpack_6 f b 6 (expN f b) (b % 2 ^ (pF f - 1)) (pF f) (eF f) _ _ (eminI f) _ _ _ w p2 (by omega) (by omega) (by omega) (by omega) (by omega) (int_eq_false _ _ (by decide)) (int_eq_false _ _ (by decide)) (int_eq_false _ _ (by decide)) (int_eq_false _ _ (by decide)) (int_eq_false _ _ (by decide)) (int_eq_true _ _ (by decide)) cC cF cP cX cO cL cA
   have e1 : xpN f b = (expN f b : Int) - (eF f : Int) - (pF f : Int) + 1 := by unfold xpN; rw [if_pos (by omega)]; omega
   obtain ⟨e2, e3⟩ := sign_normal f b (by omega)
   rw [hc, e1, e2, e3]; exact h
  ·have h := r8Unpack_0 f b 7 (expN f b) (b % 2 ^ (pF f - 1)) (pF f) (eF f) 0 0 (eminI f) _ false false w p2 (by omega) (by omega) (by omega) (by omega) (by omega) (int_eq_false _ _ (by decide)) (int_eq_false _ _ (by decide)) (int_eq_false _ _ (by decide)) (int_eq_false _ _ (by decide)) (int_eq_false _ _ (by decide)) (int_eq_false _ _ (by decide)) cC cF cP
   have e1 : sigN f b = 0 := by unfold sigN; rw [if_neg (by omega), if_neg (by omega)]
   have e2 : xpN f b = 0 := by unfold xpN; rw [if_neg (by omega), if_neg (by omega)]
   have e3 : frN f b = 0 := by unfold frN; rw [if_neg (by omega)]
   rw [hc, e1, e2, e3]; exact h
  ·have h := r8Unpack_8 f b 8 (expN f b) (b % 2 ^ (pF f - 1)) (pF f) (eF f) 0 0 (eminI f) _ false false w p2 (by omega) (by omega) (by omega) (by omega) (by omega) (int_eq_true _ _ (by decide)) cC cF cP
   have e1 : sigN f b = 0 := by unfold sigN; rw [if_neg (by omega), if_neg (by omega)]
   have e2 : xpN f b = 0 := by unfold xpN; rw [if_neg (by omega), if_neg (by omega)]
   have e3 : frN f b = b % 2 ^ (pF f - 1) := by unfold frN; rw [if_pos (by omega)]
   rw [hc, e1, e2, e3]; exact h
  ·have h := r8Unpack_9 f b 9 (expN f b) (b % 2 ^ (pF f - 1)) (pF f) (eF f) 0 0 (eminI f) _ false false w p2 (by omega) (by omega) (by omega) (by omega) (by omega) (int_eq_false _ _ (by decide)) (int_eq_true _ _ (by decide)) cC cF cP
   have e1 : sigN f b = 0 := by unfold sigN; rw [if_neg (by omega), if_neg (by omega)]
   have e2 : xpN f b = 0 := by unfold xpN; rw [if_neg (by omega), if_neg (by omega)]
   have e3 : frN f b = b % 2 ^ (pF f - 1) := by unfold frN; rw [if_pos (by omega)]
   rw [hc, e1, e2, e3]; exact h
 exact key _ rfl (cls_le f b)
end Go.Proofs.YtgmhmpflmgfcdaaGreatDoor
