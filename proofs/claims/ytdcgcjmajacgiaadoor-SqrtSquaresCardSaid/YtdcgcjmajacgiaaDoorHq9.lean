/- Part 9 of what is proved: Wmul, Mua, Mub, Muc, Mud, Mue, Muj, Eqb, Lsq. -/
import Derived.Test.YtdcgcjmajacgiaaDoorHq0
import Derived.Test.YtdcgcjmajacgiaaDoorHq1
import Derived.Test.YtdcgcjmajacgiaaDoorHq2
import Derived.Test.YtdcgcjmajacgiaaDoorHq3
import Derived.Test.YtdcgcjmajacgiaaDoorHq5
import Derived.Test.YtdcgcjmajacgiaaDoorHq6
import Derived.Test.YtdcgcjmajacgiaaDoorHq7
import Derived.Test.YtdcgcjmajacgiaaDoorHq8
set_option linter.unusedSimpArgs false
set_option linter.unusedVariables false
set_option linter.unnecessarySimpa false
namespace Go.Proofs.YtdcgcjmajacgiaaDoor
open Go.RowKit
theorem ext_12 (a : Nat) : (limbs12 a).extract 0 (0 + (limbs12 a).size) = limbs12 a := by rw [Nat.zero_add]; exact Array.extract_size
theorem limbs12_zero : limbs12 0 = #[.int .u64 0, .int .u64 0, .int .u64 0, .int .u64 0, .int .u64 0, .int .u64 0, .int .u64 0, .int .u64 0, .int .u64 0, .int .u64 0, .int .u64 0, .int .u64 0] := by
  unfold limbs12; simp only [limb_zero]
theorem tV_s : (Tryd.prog.info? 118).map (·.size) = some 12 := by kernel_rfl
theorem tV_z : (Tryd.prog.info? 118).bind (·.zero) = some (.agg (limbs12 0)) := by rw [limbs12_zero]; kernel_rfl
theorem rV : IsRow Tryd.prog 118 12 (limbs12 0) := ⟨⟨_, Tryd.underlying118, rfl⟩, tV_s, tV_z⟩
theorem run_index_w (a k : Nat) (hk : k < 6) (w : World) : (Instr.index 54 (.agg (limbs a)) (.int .i64 (k : Int))).run Tryd.prog w = .ok (.int .u64 (limb a k)) w := run_index_wide w a k hk
theorem run_index_12 (a k : Nat) (hk : k < 12) (w : World) : (Instr.index 118 (.agg (limbs12 a)) (.int .i64 (k : Int))).run Tryd.prog w = .ok (.int .u64 (limb a k)) w :=
  run_index_arr _ Tryd.underlying118 Tryd.isAgg25 Tryd.sizeOf25 hk (limbs12_get a k hk)
theorem set_12 (V j v : Nat) (hj : j < 12) (hv : v < 18446744073709551616) : setRow (limbs12 V) j (#[.int .u64 ((v : Nat) : Int)] : Array Value).toList = limbs12 (setL V j v) := limbs12_set V j v hj hv
theorem set_low (V k : Nat) (hk : k < 6) : setRow (limbs (V % 2 ^ (64 * k))) k (#[.int .u64 (limb V k)] : Array Value).toList = limbs (V % 2 ^ (64 * (k + 1))) := by
  rw [mod_low]; exact limbs_put _ _ k hk (Nat.mod_lt _ (pw_pos k)) (limbN_lt V k)
theorem over_low (V k : Nat) (hk : k ≤ 6) : decide (top6 ≤ V % 2 ^ (64 * k)) = false := by
  have h1 := Nat.mod_lt V (pw_pos k)
  have h2 : 2 ^ (64 * k) ≤ top6 := by rw [top6.eq_1]; exact pw_mono0 k 6 hk
  rw [decide_eq_false_iff_not]; omega
theorem prod_all (a b k : Nat) (hk : k = 12) (ha : a < top6) (hb : b < top6) : a * b % 2 ^ (64 * k) = a * b := by
  refine Nat.mod_eq_of_lt ?_
  have : a * b < top6 * top6 := Nat.mul_lt_mul'' ha hb
  have e : 2 ^ (64 * k) = top6 * top6 := by
    rw [show 64 * k = 64 * 6 + 64 * (k - 6) by omega, Nat.pow_add, ← top6.eq_1, show k - 6 = 6 by omega, ← top6.eq_1]
  rw [e]; exact this
theorem a_all (a : Nat) (ha : a < top6) (k : Nat) (hk : k = 6) : a % 2 ^ (64 * k) = a := Nat.mod_eq_of_lt (by rw [hk, ← top6.eq_1]; exact ha)
set_option maxHeartbeats 3200000 in
set_option maxRecDepth 100000 in
theorem wideMul_any (a b : Nat) (w0 : World) (ha : a < top6) (hb : b < top6) :
    Calls Tryd.prog 62 #[W a, W b] w0 fun e w' => e = .returned (.tuple #[W (a * b), .bool (decide (top6 ≤ a * b))]) ∧ Below w0.heap.size w0 w' := by
  have H := Own.start w0
  have HA := Lib.hid ha
  have HB := Lib.hid hb
  clear ha hb
  go_enter Tryd.func62, Tryd.ntmps62
  go_wp2_with (first
    | ((with_reducible show wpList _ _ _ (⟨some 2, .box _ _, _, _, _, _⟩ :: _) _ _); refine H.box rfl rfl (cells_agg _) ?_; (intro ga w H; simp only [Act.put, List.setIfInBounds_toArray, List.set_cons_zero, List.set_cons_succ]))
    | ((with_reducible show wpList _ _ _ (⟨some 3, .box _ _, _, _, _, _⟩ :: _) _ _); refine H.box rfl rfl (cells_agg _) ?_; (intro gb w H; simp only [Act.put, List.setIfInBounds_toArray, List.set_cons_zero, List.set_cons_succ]))
    | ((with_reducible show wpList _ _ _ (⟨some 4, .alloc 54, _, _, _, _⟩ :: _) _ _); refine H.mk0 rfl rW rfl ?_; (intro gp w H; simp only [Act.put, List.setIfInBounds_toArray, List.set_cons_zero, List.set_cons_succ]))
    | ((with_reducible show wpList _ _ _ (⟨some 6, .alloc 118, _, _, _, _⟩ :: _) _ _); refine H.mk0 rfl rV rfl ?_; (intro gv w H; simp only [Act.put, List.setIfInBounds_toArray, List.set_cons_zero, List.set_cons_succ]))
    | ((with_reducible show wpList _ _ _ (⟨_, .box _ _, _, _, _, _⟩ :: _) _ _); refine H.box rfl rfl (cells_agg _) ?_; (intro g w H; simp only [Act.put, List.setIfInBounds_toArray, List.set_cons_zero, List.set_cons_succ]))
    | ((with_reducible show wpList _ _ _ (⟨_, .alloc 54, _, _, _, _⟩ :: _) _ _); refine H.mk0 rfl rW rfl ?_; (intro g w H; simp only [Act.put, List.setIfInBounds_toArray, List.set_cons_zero, List.set_cons_succ]))
    | ((with_reducible show wpList _ _ _ (⟨_, .alloc 118, _, _, _, _⟩ :: _) _ _); refine H.mk0 rfl rV rfl ?_; (intro g w H; simp only [Act.put, List.setIfInBounds_toArray, List.set_cons_zero, List.set_cons_succ]))
    | ((with_reducible show wpList _ _ _ (⟨_, .load 54 _, _, _, _, _⟩ :: _) _ _); refine H.ld rfl rW rfl rfl (by repeat (first | with_reducible exact List.mem_cons_self | apply List.mem_cons_of_mem)) (by first | with_reducible exact ext_limbs _ | with_reducible exact ext_parts_s _ _ _ _ | with_reducible exact ext_rough_s _ _ _ _ | with_reducible exact ext_parts_f _ _ _ _) (by rfl) ?_; simp only [Act.put, List.setIfInBounds_toArray, List.set_cons_zero, List.set_cons_succ])
    | ((with_reducible show wpList _ _ _ (⟨_, .load 118 _, _, _, _, _⟩ :: _) _ _); refine H.ld rfl rV rfl rfl (by repeat (first | with_reducible exact List.mem_cons_self | apply List.mem_cons_of_mem)) (by first | with_reducible exact ext_12 _) (by rfl) ?_; simp only [Act.put, List.setIfInBounds_toArray, List.set_cons_zero, List.set_cons_succ])
    | ((with_reducible show wpList _ _ _ (⟨_, .load 25 _, _, _, _, _⟩ :: _) _ _); refine H.ld1 rfl oU rfl rfl (by repeat (first | with_reducible exact List.mem_cons_self | apply List.mem_cons_of_mem)) (by first | with_reducible exact get_20 _ _ | with_reducible exact get_21 _ _ | with_reducible exact limbs_o0 _ | with_reducible exact limbs_o1 _ | with_reducible exact limbs_o2 _ | with_reducible exact limbs_o3 _ | with_reducible exact limbs_o4 _ | with_reducible exact limbs_o5 _) ?_; simp only [Act.put, List.setIfInBounds_toArray, List.set_cons_zero, List.set_cons_succ])
    | ((with_reducible show wpList _ _ _ (⟨_, .store 54 _ _, _, _, _, _⟩ :: _) _ _); refine H.st rfl rW rfl rfl (cells_agg _) (by repeat (first | with_reducible exact Upd.head _ | apply Upd.tail)) (by first | with_reducible exact set_zero6 _ rfl | with_reducible exact set_all _ _ rfl | with_reducible exact set_parts_s _ _ _ _ _ | with_reducible exact set_rough_s _ _ _ _ _ | with_reducible exact set_parts_f _ _ _ _ _) (by rfl) (by exact one_of rfl) (by first | exact ble_le rfl | (change _ + 1 ≤ 12; omega) | (change _ + 1 ≤ 6; omega)) ?_; (intro w H; simp only [Act.put]))
    | ((with_reducible show wpList _ _ _ (⟨_, .store 118 _ _, _, _, _, _⟩ :: _) _ _); refine H.st rfl rV rfl rfl (cells_agg _) (by repeat (first | with_reducible exact Upd.head _ | apply Upd.tail)) (by first | with_reducible exact set_all _ _ rfl) (by rfl) (by exact one_of rfl) (by first | exact ble_le rfl | (change _ + 1 ≤ 12; omega) | (change _ + 1 ≤ 6; omega)) ?_; (intro w H; simp only [Act.put]))
    | ((with_reducible show wpList _ _ _ (⟨_, .store 25 _ _, _, _, _, _⟩ :: _) _ _); refine H.st1 rfl oU rfl rfl (cells_int _ _) (by repeat (first | with_reducible exact Upd.head _ | apply Upd.tail)) (by first | with_reducible exact set_20 _ _ _ | with_reducible exact set_21 _ _ _ | with_reducible exact set_10 _ _) (by rfl) (by exact one_of rfl) (by first | exact ble_le rfl | (change _ + 1 ≤ 12; omega) | (change _ + 1 ≤ 6; omega)) ?_; (intro w H; simp only [Act.put]))
    )
  go_loopw [19] (fun i wr => ∃ (k V : Nat), k ≤ 6 ∧ i = .int .i64 k ∧ Hid (V = a % 2 ^ (64 * k) * b) ∧ Own w0 wr [(gv, 118, limbs12 V), (gp, 54, limbs 0), (gb, 54, limbs b), (ga, 54, limbs a)]) (fun i _ => 6 - (intOf i).toNat)
  case atStart => exact ⟨0, 0, by omega, rfl, Lib.hid (by rw [Nat.mul_zero, Nat.pow_zero, Nat.mod_one, Nat.zero_mul]), H⟩
  case round =>
    clear H
    obtain ⟨k, V, hk, rfl, hV, H⟩ := hrel
    by_cases hlt : k < 6
    · have ix := run_index_w a k hlt
      have hd : decide ((k : Int) < 6) = true := by simp; omega
      go_wp2_with (first
    | ((with_reducible show wpList _ _ _ (⟨some 2, .box _ _, _, _, _, _⟩ :: _) _ _); refine H.box rfl rfl (cells_agg _) ?_; (intro ga w H; simp only [Act.put, List.setIfInBounds_toArray, List.set_cons_zero, List.set_cons_succ]))
    | ((with_reducible show wpList _ _ _ (⟨some 3, .box _ _, _, _, _, _⟩ :: _) _ _); refine H.box rfl rfl (cells_agg _) ?_; (intro gb w H; simp only [Act.put, List.setIfInBounds_toArray, List.set_cons_zero, List.set_cons_succ]))
    | ((with_reducible show wpList _ _ _ (⟨some 4, .alloc 54, _, _, _, _⟩ :: _) _ _); refine H.mk0 rfl rW rfl ?_; (intro gp w H; simp only [Act.put, List.setIfInBounds_toArray, List.set_cons_zero, List.set_cons_succ]))
    | ((with_reducible show wpList _ _ _ (⟨some 6, .alloc 118, _, _, _, _⟩ :: _) _ _); refine H.mk0 rfl rV rfl ?_; (intro gv w H; simp only [Act.put, List.setIfInBounds_toArray, List.set_cons_zero, List.set_cons_succ]))
    | ((with_reducible show wpList _ _ _ (⟨_, .box _ _, _, _, _, _⟩ :: _) _ _); refine H.box rfl rfl (cells_agg _) ?_; (intro g w H; simp only [Act.put, List.setIfInBounds_toArray, List.set_cons_zero, List.set_cons_succ]))
    | ((with_reducible show wpList _ _ _ (⟨_, .alloc 54, _, _, _, _⟩ :: _) _ _); refine H.mk0 rfl rW rfl ?_; (intro g w H; simp only [Act.put, List.setIfInBounds_toArray, List.set_cons_zero, List.set_cons_succ]))
    | ((with_reducible show wpList _ _ _ (⟨_, .alloc 118, _, _, _, _⟩ :: _) _ _); refine H.mk0 rfl rV rfl ?_; (intro g w H; simp only [Act.put, List.setIfInBounds_toArray, List.set_cons_zero, List.set_cons_succ]))
    | ((with_reducible show wpList _ _ _ (⟨_, .load 54 _, _, _, _, _⟩ :: _) _ _); refine H.ld rfl rW rfl rfl (by repeat (first | with_reducible exact List.mem_cons_self | apply List.mem_cons_of_mem)) (by first | with_reducible exact ext_limbs _ | with_reducible exact ext_parts_s _ _ _ _ | with_reducible exact ext_rough_s _ _ _ _ | with_reducible exact ext_parts_f _ _ _ _) (by rfl) ?_; simp only [Act.put, List.setIfInBounds_toArray, List.set_cons_zero, List.set_cons_succ])
    | ((with_reducible show wpList _ _ _ (⟨_, .load 118 _, _, _, _, _⟩ :: _) _ _); refine H.ld rfl rV rfl rfl (by repeat (first | with_reducible exact List.mem_cons_self | apply List.mem_cons_of_mem)) (by first | with_reducible exact ext_12 _) (by rfl) ?_; simp only [Act.put, List.setIfInBounds_toArray, List.set_cons_zero, List.set_cons_succ])
    | ((with_reducible show wpList _ _ _ (⟨_, .load 25 _, _, _, _, _⟩ :: _) _ _); refine H.ld1 rfl oU rfl rfl (by repeat (first | with_reducible exact List.mem_cons_self | apply List.mem_cons_of_mem)) (by first | with_reducible exact get_20 _ _ | with_reducible exact get_21 _ _ | with_reducible exact limbs_o0 _ | with_reducible exact limbs_o1 _ | with_reducible exact limbs_o2 _ | with_reducible exact limbs_o3 _ | with_reducible exact limbs_o4 _ | with_reducible exact limbs_o5 _) ?_; simp only [Act.put, List.setIfInBounds_toArray, List.set_cons_zero, List.set_cons_succ])
    | ((with_reducible show wpList _ _ _ (⟨_, .store 54 _ _, _, _, _, _⟩ :: _) _ _); refine H.st rfl rW rfl rfl (cells_agg _) (by repeat (first | with_reducible exact Upd.head _ | apply Upd.tail)) (by first | with_reducible exact set_zero6 _ rfl | with_reducible exact set_all _ _ rfl | with_reducible exact set_parts_s _ _ _ _ _ | with_reducible exact set_rough_s _ _ _ _ _ | with_reducible exact set_parts_f _ _ _ _ _) (by rfl) (by exact one_of rfl) (by first | exact ble_le rfl | (change _ + 1 ≤ 12; omega) | (change _ + 1 ≤ 6; omega)) ?_; (intro w H; simp only [Act.put]))
    | ((with_reducible show wpList _ _ _ (⟨_, .store 118 _ _, _, _, _, _⟩ :: _) _ _); refine H.st rfl rV rfl rfl (cells_agg _) (by repeat (first | with_reducible exact Upd.head _ | apply Upd.tail)) (by first | with_reducible exact set_all _ _ rfl) (by rfl) (by exact one_of rfl) (by first | exact ble_le rfl | (change _ + 1 ≤ 12; omega) | (change _ + 1 ≤ 6; omega)) ?_; (intro w H; simp only [Act.put]))
    | ((with_reducible show wpList _ _ _ (⟨_, .store 25 _ _, _, _, _, _⟩ :: _) _ _); refine H.st1 rfl oU rfl rfl (cells_int _ _) (by repeat (first | with_reducible exact Upd.head _ | apply Upd.tail)) (by first | with_reducible exact set_20 _ _ _ | with_reducible exact set_21 _ _ _ | with_reducible exact set_10 _ _) (by rfl) (by exact one_of rfl) (by first | exact ble_le rfl | (change _ + 1 ≤ 12; omega) | (change _ + 1 ≤ 6; omega)) ?_; (intro w H; simp only [Act.put]))
    )
      go_loopw [9, 24] (fun v i wr => ∃ (j c V : Nat), j ≤ 6 ∧ i = .int .i64 j ∧ v = .int .u64 (c : Nat) ∧ Hid (MulAt a b k j V c) ∧ Hid (∀ i, k + 6 ≤ i → limbN V i = 0) ∧ Own w0 wr [(gv, 118, limbs12 V), (gp, 54, limbs 0), (gb, 54, limbs b), (ga, 54, limbs a)]) (fun _ i _ => 6 - (intOf i).toNat)
      case atStart => exact ⟨0, 0, V, by omega, rfl, rfl, Lib.hid (mul_start a b k V hV.out), Lib.hid (fun i hi => mul_high a b k V hV.out HB.out i hi), H⟩
      case round =>
        clear H hV V ix
        obtain ⟨j, c, V, hj, rfl, rfl, hM, hZ, H⟩ := hrel
        by_cases hjt : j < 6
        · have iy := run_index_w b j hjt
          have hc : c < 18446744073709551616 := hM.out.2
          have hmac := mac_words (limbN a k) (limbN b j) (limbN V (k + j)) c (limbN_lt _ _) (limbN_lt _ _) (limbN_lt _ _) hc
          have hlow : macN (limbN a k) (limbN b j) (limbN V (k + j)) c % 18446744073709551616 < 18446744073709551616 := Nat.mod_lt _ (by decide)
          have M1 := mul_step a b k j V c hM.out
          generalize macN (limbN a k) (limbN b j) (limbN V (k + j)) c % 18446744073709551616 = lo2 at hlow hmac M1
          generalize macN (limbN a k) (limbN b j) (limbN V (k + j)) c / 18446744073709551616 = hi2 at hmac M1
          have M2 := Lib.hid M1
          have Z2 := Lib.hid (setL_high V (k + j) lo2 (k + 6) hlow (by omega) hZ.out)
          have w0' : IsW 0 := ⟨by decide, by decide⟩
          have wc : IsW (c : Int) := ⟨by omega, by omega⟩
          have hx : limb V (k + j) = ((limbN V (k + j) : Nat) : Int) := rfl
          have hadd : ∀ x y c, IsW x → IsW y → IsW (addW x y c) := by
            intro x y c _ _; unfold IsW addW; omega
          have wl : IsW (mulLo (limb a k) (limb b j)) := by unfold mulLo IsW; have := Nat.mod_lt ((limb a k).toNat * (limb b j).toNat) (show 0 < 18446744073709551616 by decide); omega
          have wh : IsW (mulHi (limb a k) (limb b j)) := by
            have h1 : (limb a k).toNat < 18446744073709551616 := by unfold limb; rw [Int.toNat_natCast]; exact limbN_lt _ _
            have h2 : (limb b j).toNat < 18446744073709551616 := by unfold limb; rw [Int.toNat_natCast]; exact limbN_lt _ _
            have h3 : (limb a k).toNat * (limb b j).toNat ≤ 18446744073709551615 * 18446744073709551615 := Nat.mul_le_mul (by omega) (by omega)
            unfold mulHi IsW; omega
          have cM := fun w => wordMul_any (limb a k) (limb b j) w (limb_w a k) (limb_w b j)
          have c1 := fun w => wordAdd_any (mulLo (limb a k) (limb b j)) (limb V (k + j)) false w wl (limb_w _ _)
          have c2 := fun w => wordAdd_any (mulHi (limb a k) (limb b j)) 0 (carW (mulLo (limb a k) (limb b j)) (limb V (k + j)) false) w wh w0'
          have c3 := fun w => wordAdd_any (addW (mulLo (limb a k) (limb b j)) (limb V (k + j)) false) (c : Int) false w (hadd _ _ _ wl (limb_w _ _)) wc
          have c4 := fun w => wordAdd_any (addW (mulHi (limb a k) (limb b j)) 0 (carW (mulLo (limb a k) (limb b j)) (limb V (k + j)) false)) 0 (carW (addW (mulLo (limb a k) (limb b j)) (limb V (k + j)) false) (c : Int) false) w (hadd _ _ _ wh w0') w0'
          unfold limb at cM c1 c2 c3 c4
          rw [hmac.1] at c3
          rw [hmac.2] at c4
          have e1 : limb V (k + j) = ((limbN V (k + j) : Nat) : Int) := rfl
          rw [← hx] at c1 c2 c3 c4
          have ea : ((limbN a k : Nat) : Int) = limb a k := rfl
          have eb : ((limbN b j : Nat) : Int) = limb b j := rfl
          rw [ea, eb] at cM c1 c2 c3 c4
          generalize mulLo (limb a k) (limb b j) = lo0 at cM c1 c2 c3 c4
          generalize mulHi (limb a k) (limb b j) = hi0 at cM c2 c4
          generalize carW lo0 (limb V (k + j)) false = q1 at c1 c2 c4
          generalize carW (addW lo0 (limb V (k + j)) false) (c : Int) false = q2 at c3 c4
          generalize addW lo0 (limb V (k + j)) false = lo1 at c1 c3
          generalize addW hi0 0 q1 = hi1 at c2 c4
          generalize carW hi0 0 q1 = q3 at c2
          generalize carW hi1 0 q2 = q4 at c4
          clear M1 hmac hadd wl wh w0' wc hx ea eb e1 hM hZ hc
          have G12 : (limbs12 V)[k + j]? = some (.int .u64 (limb V (k + j))) := limbs12_get V (k + j) (by omega)
          go_wp2_with (first
    | ((with_reducible show wpList _ _ _ (⟨_, .box _ _, _, _, _, _⟩ :: _) _ _); refine H.box rfl rfl (cells_agg _) ?_; (intro g w H; simp only [Act.put, List.setIfInBounds_toArray, List.set_cons_zero, List.set_cons_succ]))
    | ((with_reducible show wpList _ _ _ (⟨_, .load 54 _, _, _, _, _⟩ :: _) _ _); refine H.ld rfl rW rfl rfl (by repeat (first | with_reducible exact List.mem_cons_self | apply List.mem_cons_of_mem)) (by first | with_reducible exact ext_limbs _ | with_reducible exact ext_parts_s _ _ _ _ | with_reducible exact ext_rough_s _ _ _ _ | with_reducible exact ext_parts_f _ _ _ _) (by rfl) ?_; simp only [Act.put, List.setIfInBounds_toArray, List.set_cons_zero, List.set_cons_succ])
    | ((with_reducible show wpList _ _ _ (⟨_, .load 118 _, _, _, _, _⟩ :: _) _ _); refine H.ld rfl rV rfl rfl (by repeat (first | with_reducible exact List.mem_cons_self | apply List.mem_cons_of_mem)) (by first | with_reducible exact ext_12 _) (by rfl) ?_; simp only [Act.put, List.setIfInBounds_toArray, List.set_cons_zero, List.set_cons_succ])
    | ((with_reducible show wpList _ _ _ (⟨_, .load 25 _, _, _, _, _⟩ :: _) _ _); refine H.ld1 rfl oU rfl rfl (by repeat (first | with_reducible exact List.mem_cons_self | apply List.mem_cons_of_mem)) (by first | with_reducible exact G12 | with_reducible exact get_20 _ _ | with_reducible exact get_21 _ _ | with_reducible exact limbs_o0 _ | with_reducible exact limbs_o1 _ | with_reducible exact limbs_o2 _ | with_reducible exact limbs_o3 _ | with_reducible exact limbs_o4 _ | with_reducible exact limbs_o5 _) ?_; simp only [Act.put, List.setIfInBounds_toArray, List.set_cons_zero, List.set_cons_succ])
    | ((with_reducible show wpList _ _ _ (⟨_, .store 25 _ _, _, _, _, _⟩ :: _) _ _); refine H.st1 rfl oU rfl rfl (cells_int _ _) (by repeat (first | with_reducible exact Upd.head _ | apply Upd.tail)) (set_12 _ _ _ (by omega) hlow) (by rfl) (by exact one_of rfl) (by first | exact ble_le rfl | (change _ + 1 ≤ 12; omega) | (change _ + 1 ≤ 6; omega)) ?_; (intro w H; simp only [Act.put]))
    | (go_at_call 104; ((with_reducible refine (cM _).mono ?_); rintro e w' ⟨rfl, rfl⟩))
    | (go_at_call 102; ((with_reducible refine (c1 _).mono ?_); rintro e w' ⟨rfl, rfl⟩))
    | (go_at_call 102; ((with_reducible refine (c2 _).mono ?_); rintro e w' ⟨rfl, rfl⟩))
    | (go_at_call 102; ((with_reducible refine (c3 _).mono ?_); rintro e w' ⟨rfl, rfl⟩))
    | (go_at_call 102; ((with_reducible refine (c4 _).mono ?_); rintro e w' ⟨rfl, rfl⟩))
    )
          all_goals
            go_roundw
            case rel => exact ⟨j + 1, _, _, by omega, by go_num, rfl, M2, Z2, H⟩
            case measure => simp [intOf]; omega
        · have : j = 6 := by omega
          subst this
          have hc : c < 18446744073709551616 := hM.out.2
          have R := Lib.hid (mul_row a b k V c hM.out HB.out (hZ.out (k + 6) (by omega)))
          clear hM hZ hjt
          go_wp2_with (first
    | ((with_reducible show wpList _ _ _ (⟨_, .box _ _, _, _, _, _⟩ :: _) _ _); refine H.box rfl rfl (cells_agg _) ?_; (intro g w H; simp only [Act.put, List.setIfInBounds_toArray, List.set_cons_zero, List.set_cons_succ]))
    | ((with_reducible show wpList _ _ _ (⟨_, .load 54 _, _, _, _, _⟩ :: _) _ _); refine H.ld rfl rW rfl rfl (by repeat (first | with_reducible exact List.mem_cons_self | apply List.mem_cons_of_mem)) (by first | with_reducible exact ext_limbs _ | with_reducible exact ext_parts_s _ _ _ _ | with_reducible exact ext_rough_s _ _ _ _ | with_reducible exact ext_parts_f _ _ _ _) (by rfl) ?_; simp only [Act.put, List.setIfInBounds_toArray, List.set_cons_zero, List.set_cons_succ])
    | ((with_reducible show wpList _ _ _ (⟨_, .load 118 _, _, _, _, _⟩ :: _) _ _); refine H.ld rfl rV rfl rfl (by repeat (first | with_reducible exact List.mem_cons_self | apply List.mem_cons_of_mem)) (by first | with_reducible exact ext_12 _) (by rfl) ?_; simp only [Act.put, List.setIfInBounds_toArray, List.set_cons_zero, List.set_cons_succ])
    | ((with_reducible show wpList _ _ _ (⟨_, .load 25 _, _, _, _, _⟩ :: _) _ _); refine H.ld1 rfl oU rfl rfl (by repeat (first | with_reducible exact List.mem_cons_self | apply List.mem_cons_of_mem)) (by first | with_reducible exact get_20 _ _ | with_reducible exact get_21 _ _ | with_reducible exact limbs_o0 _ | with_reducible exact limbs_o1 _ | with_reducible exact limbs_o2 _ | with_reducible exact limbs_o3 _ | with_reducible exact limbs_o4 _ | with_reducible exact limbs_o5 _) ?_; simp only [Act.put, List.setIfInBounds_toArray, List.set_cons_zero, List.set_cons_succ])
    | ((with_reducible show wpList _ _ _ (⟨_, .store 25 _ _, _, _, _, _⟩ :: _) _ _); refine H.st1 rfl oU rfl rfl (cells_int _ _) (by repeat (first | with_reducible exact Upd.head _ | apply Upd.tail)) (set_12 _ _ _ (by omega) hc) (by rfl) (by exact one_of rfl) (by first | exact ble_le rfl | (change _ + 1 ≤ 12; omega) | (change _ + 1 ≤ 6; omega)) ?_; (intro w H; simp only [Act.put]))
    )
          all_goals
            go_roundw
            case rel => exact ⟨k + 1, _, by omega, by go_num, R, H⟩
            case measure => simp [intOf]; omega
    · have hk6 : k = 6 := by omega
      subst hk6
      have hV2 : V = a * b := by have := hV.out; rw [a_all a HA.out 6 rfl] at this; exact this
      subst hV2
      clear hV hlt hk
      go_wp2_with (first
    | ((with_reducible show wpList _ _ _ (⟨some 2, .box _ _, _, _, _, _⟩ :: _) _ _); refine H.box rfl rfl (cells_agg _) ?_; (intro ga w H; simp only [Act.put, List.setIfInBounds_toArray, List.set_cons_zero, List.set_cons_succ]))
    | ((with_reducible show wpList _ _ _ (⟨some 3, .box _ _, _, _, _, _⟩ :: _) _ _); refine H.box rfl rfl (cells_agg _) ?_; (intro gb w H; simp only [Act.put, List.setIfInBounds_toArray, List.set_cons_zero, List.set_cons_succ]))
    | ((with_reducible show wpList _ _ _ (⟨some 4, .alloc 54, _, _, _, _⟩ :: _) _ _); refine H.mk0 rfl rW rfl ?_; (intro gp w H; simp only [Act.put, List.setIfInBounds_toArray, List.set_cons_zero, List.set_cons_succ]))
    | ((with_reducible show wpList _ _ _ (⟨some 6, .alloc 118, _, _, _, _⟩ :: _) _ _); refine H.mk0 rfl rV rfl ?_; (intro gv w H; simp only [Act.put, List.setIfInBounds_toArray, List.set_cons_zero, List.set_cons_succ]))
    | ((with_reducible show wpList _ _ _ (⟨_, .box _ _, _, _, _, _⟩ :: _) _ _); refine H.box rfl rfl (cells_agg _) ?_; (intro g w H; simp only [Act.put, List.setIfInBounds_toArray, List.set_cons_zero, List.set_cons_succ]))
    | ((with_reducible show wpList _ _ _ (⟨_, .alloc 54, _, _, _, _⟩ :: _) _ _); refine H.mk0 rfl rW rfl ?_; (intro g w H; simp only [Act.put, List.setIfInBounds_toArray, List.set_cons_zero, List.set_cons_succ]))
    | ((with_reducible show wpList _ _ _ (⟨_, .alloc 118, _, _, _, _⟩ :: _) _ _); refine H.mk0 rfl rV rfl ?_; (intro g w H; simp only [Act.put, List.setIfInBounds_toArray, List.set_cons_zero, List.set_cons_succ]))
    | ((with_reducible show wpList _ _ _ (⟨_, .load 54 _, _, _, _, _⟩ :: _) _ _); refine H.ld rfl rW rfl rfl (by repeat (first | with_reducible exact List.mem_cons_self | apply List.mem_cons_of_mem)) (by first | with_reducible exact ext_limbs _ | with_reducible exact ext_parts_s _ _ _ _ | with_reducible exact ext_rough_s _ _ _ _ | with_reducible exact ext_parts_f _ _ _ _) (by rfl) ?_; simp only [Act.put, List.setIfInBounds_toArray, List.set_cons_zero, List.set_cons_succ])
    | ((with_reducible show wpList _ _ _ (⟨_, .load 118 _, _, _, _, _⟩ :: _) _ _); refine H.ld rfl rV rfl rfl (by repeat (first | with_reducible exact List.mem_cons_self | apply List.mem_cons_of_mem)) (by first | with_reducible exact ext_12 _) (by rfl) ?_; simp only [Act.put, List.setIfInBounds_toArray, List.set_cons_zero, List.set_cons_succ])
    | ((with_reducible show wpList _ _ _ (⟨_, .load 25 _, _, _, _, _⟩ :: _) _ _); refine H.ld1 rfl oU rfl rfl (by repeat (first | with_reducible exact List.mem_cons_self | apply List.mem_cons_of_mem)) (by first | with_reducible exact get_20 _ _ | with_reducible exact get_21 _ _ | with_reducible exact limbs_o0 _ | with_reducible exact limbs_o1 _ | with_reducible exact limbs_o2 _ | with_reducible exact limbs_o3 _ | with_reducible exact limbs_o4 _ | with_reducible exact limbs_o5 _) ?_; simp only [Act.put, List.setIfInBounds_toArray, List.set_cons_zero, List.set_cons_succ])
    | ((with_reducible show wpList _ _ _ (⟨_, .store 54 _ _, _, _, _, _⟩ :: _) _ _); refine H.st rfl rW rfl rfl (cells_agg _) (by repeat (first | with_reducible exact Upd.head _ | apply Upd.tail)) (by first | with_reducible exact set_zero6 _ rfl | with_reducible exact set_all _ _ rfl | with_reducible exact set_parts_s _ _ _ _ _ | with_reducible exact set_rough_s _ _ _ _ _ | with_reducible exact set_parts_f _ _ _ _ _) (by rfl) (by exact one_of rfl) (by first | exact ble_le rfl | (change _ + 1 ≤ 12; omega) | (change _ + 1 ≤ 6; omega)) ?_; (intro w H; simp only [Act.put]))
    | ((with_reducible show wpList _ _ _ (⟨_, .store 118 _ _, _, _, _, _⟩ :: _) _ _); refine H.st rfl rV rfl rfl (cells_agg _) (by repeat (first | with_reducible exact Upd.head _ | apply Upd.tail)) (by first | with_reducible exact set_all _ _ rfl) (by rfl) (by exact one_of rfl) (by first | exact ble_le rfl | (change _ + 1 ≤ 12; omega) | (change _ + 1 ≤ 6; omega)) ?_; (intro w H; simp only [Act.put]))
    | ((with_reducible show wpList _ _ _ (⟨_, .store 25 _ _, _, _, _, _⟩ :: _) _ _); refine H.st1 rfl oU rfl rfl (cells_int _ _) (by repeat (first | with_reducible exact Upd.head _ | apply Upd.tail)) (by first | with_reducible exact set_20 _ _ _ | with_reducible exact set_21 _ _ _ | with_reducible exact set_10 _ _) (by rfl) (by exact one_of rfl) (by first | exact ble_le rfl | (change _ + 1 ≤ 12; omega) | (change _ + 1 ≤ 6; omega)) ?_; (intro w H; simp only [Act.put]))
    )
      go_loopw [5, 75] (fun o i wr => ∃ (j : Nat), j ≤ 12 ∧ i = .int .i64 j ∧ o = .bool (decide (top6 ≤ a * b % 2 ^ (64 * j))) ∧ Own w0 wr [(gv, 118, limbs12 (a * b)), (gp, 54, limbs (a * b % 2 ^ (64 * min j 6))), (gb, 54, limbs b), (ga, 54, limbs a)]) (fun _ i _ => 12 - (intOf i).toNat)
      case atStart =>
        refine ⟨0, by omega, rfl, by rw [over_low (a * b) 0 (by decide)], ?_⟩
        rw [Nat.zero_min, Nat.mul_zero, Nat.pow_zero, Nat.mod_one]; exact H
      case round =>
        clear H
        obtain ⟨j, hj, rfl, rfl, H⟩ := hrel
        by_cases hjt : j < 12
        · have iz := run_index_12 (a * b) j hjt
          by_cases h6 : j < 6
          · have eo := over_low (a * b) (j + 1) (by omega)
            have eo0 := over_low (a * b) j (by omega)
            rw [Nat.min_eq_left (by omega : j ≤ 6)] at H
            rw [eo0]
            clear eo0
            go_wp2_with (first
    | ((with_reducible show wpList _ _ _ (⟨_, .box _ _, _, _, _, _⟩ :: _) _ _); refine H.box rfl rfl (cells_agg _) ?_; (intro g w H; simp only [Act.put, List.setIfInBounds_toArray, List.set_cons_zero, List.set_cons_succ]))
    | ((with_reducible show wpList _ _ _ (⟨_, .load 54 _, _, _, _, _⟩ :: _) _ _); refine H.ld rfl rW rfl rfl (by repeat (first | with_reducible exact List.mem_cons_self | apply List.mem_cons_of_mem)) (by first | with_reducible exact ext_limbs _ | with_reducible exact ext_parts_s _ _ _ _ | with_reducible exact ext_rough_s _ _ _ _ | with_reducible exact ext_parts_f _ _ _ _) (by rfl) ?_; simp only [Act.put, List.setIfInBounds_toArray, List.set_cons_zero, List.set_cons_succ])
    | ((with_reducible show wpList _ _ _ (⟨_, .load 118 _, _, _, _, _⟩ :: _) _ _); refine H.ld rfl rV rfl rfl (by repeat (first | with_reducible exact List.mem_cons_self | apply List.mem_cons_of_mem)) (by first | with_reducible exact ext_12 _) (by rfl) ?_; simp only [Act.put, List.setIfInBounds_toArray, List.set_cons_zero, List.set_cons_succ])
    | ((with_reducible show wpList _ _ _ (⟨_, .load 25 _, _, _, _, _⟩ :: _) _ _); refine H.ld1 rfl oU rfl rfl (by repeat (first | with_reducible exact List.mem_cons_self | apply List.mem_cons_of_mem)) (by first | with_reducible exact get_20 _ _ | with_reducible exact get_21 _ _ | with_reducible exact limbs_o0 _ | with_reducible exact limbs_o1 _ | with_reducible exact limbs_o2 _ | with_reducible exact limbs_o3 _ | with_reducible exact limbs_o4 _ | with_reducible exact limbs_o5 _) ?_; simp only [Act.put, List.setIfInBounds_toArray, List.set_cons_zero, List.set_cons_succ])
    | ((with_reducible show wpList _ _ _ (⟨_, .store 25 _ _, _, _, _, _⟩ :: _) _ _); refine H.st1 rfl oU rfl rfl (cells_int _ _) (by repeat (first | with_reducible exact Upd.head _ | apply Upd.tail)) (set_low _ _ h6) (by rfl) (by exact one_of rfl) (by first | exact ble_le rfl | (change _ + 1 ≤ 12; omega) | (change _ + 1 ≤ 6; omega)) ?_; (intro w H; simp only [Act.put]))
    )
            all_goals
              go_roundw
              case rel => exact ⟨j + 1, by omega, by go_num, by rw [eo], by rw [Nat.min_eq_left (by omega : j + 1 ≤ 6)]; exact H⟩
              case measure => simp [intOf]; omega
          · have os := Lib.hid (over_step (a * b) j (by omega))
            rw [Nat.min_eq_right (by omega : 6 ≤ j)] at H
            by_cases hz : limbN (a * b) j = 0
            · have z : limb (a * b) j = 0 := by unfold limb; rw [hz]; rfl
              rw [z] at iz
              have HZ := Lib.hid hz
              clear z hz
              go_wp2_with (first
    | ((with_reducible show wpList _ _ _ (⟨some 2, .box _ _, _, _, _, _⟩ :: _) _ _); refine H.box rfl rfl (cells_agg _) ?_; (intro ga w H; simp only [Act.put, List.setIfInBounds_toArray, List.set_cons_zero, List.set_cons_succ]))
    | ((with_reducible show wpList _ _ _ (⟨some 3, .box _ _, _, _, _, _⟩ :: _) _ _); refine H.box rfl rfl (cells_agg _) ?_; (intro gb w H; simp only [Act.put, List.setIfInBounds_toArray, List.set_cons_zero, List.set_cons_succ]))
    | ((with_reducible show wpList _ _ _ (⟨some 4, .alloc 54, _, _, _, _⟩ :: _) _ _); refine H.mk0 rfl rW rfl ?_; (intro gp w H; simp only [Act.put, List.setIfInBounds_toArray, List.set_cons_zero, List.set_cons_succ]))
    | ((with_reducible show wpList _ _ _ (⟨some 6, .alloc 118, _, _, _, _⟩ :: _) _ _); refine H.mk0 rfl rV rfl ?_; (intro gv w H; simp only [Act.put, List.setIfInBounds_toArray, List.set_cons_zero, List.set_cons_succ]))
    | ((with_reducible show wpList _ _ _ (⟨_, .box _ _, _, _, _, _⟩ :: _) _ _); refine H.box rfl rfl (cells_agg _) ?_; (intro g w H; simp only [Act.put, List.setIfInBounds_toArray, List.set_cons_zero, List.set_cons_succ]))
    | ((with_reducible show wpList _ _ _ (⟨_, .alloc 54, _, _, _, _⟩ :: _) _ _); refine H.mk0 rfl rW rfl ?_; (intro g w H; simp only [Act.put, List.setIfInBounds_toArray, List.set_cons_zero, List.set_cons_succ]))
    | ((with_reducible show wpList _ _ _ (⟨_, .alloc 118, _, _, _, _⟩ :: _) _ _); refine H.mk0 rfl rV rfl ?_; (intro g w H; simp only [Act.put, List.setIfInBounds_toArray, List.set_cons_zero, List.set_cons_succ]))
    | ((with_reducible show wpList _ _ _ (⟨_, .load 54 _, _, _, _, _⟩ :: _) _ _); refine H.ld rfl rW rfl rfl (by repeat (first | with_reducible exact List.mem_cons_self | apply List.mem_cons_of_mem)) (by first | with_reducible exact ext_limbs _ | with_reducible exact ext_parts_s _ _ _ _ | with_reducible exact ext_rough_s _ _ _ _ | with_reducible exact ext_parts_f _ _ _ _) (by rfl) ?_; simp only [Act.put, List.setIfInBounds_toArray, List.set_cons_zero, List.set_cons_succ])
    | ((with_reducible show wpList _ _ _ (⟨_, .load 118 _, _, _, _, _⟩ :: _) _ _); refine H.ld rfl rV rfl rfl (by repeat (first | with_reducible exact List.mem_cons_self | apply List.mem_cons_of_mem)) (by first | with_reducible exact ext_12 _) (by rfl) ?_; simp only [Act.put, List.setIfInBounds_toArray, List.set_cons_zero, List.set_cons_succ])
    | ((with_reducible show wpList _ _ _ (⟨_, .load 25 _, _, _, _, _⟩ :: _) _ _); refine H.ld1 rfl oU rfl rfl (by repeat (first | with_reducible exact List.mem_cons_self | apply List.mem_cons_of_mem)) (by first | with_reducible exact get_20 _ _ | with_reducible exact get_21 _ _ | with_reducible exact limbs_o0 _ | with_reducible exact limbs_o1 _ | with_reducible exact limbs_o2 _ | with_reducible exact limbs_o3 _ | with_reducible exact limbs_o4 _ | with_reducible exact limbs_o5 _) ?_; simp only [Act.put, List.setIfInBounds_toArray, List.set_cons_zero, List.set_cons_succ])
    | ((with_reducible show wpList _ _ _ (⟨_, .store 54 _ _, _, _, _, _⟩ :: _) _ _); refine H.st rfl rW rfl rfl (cells_agg _) (by repeat (first | with_reducible exact Upd.head _ | apply Upd.tail)) (by first | with_reducible exact set_zero6 _ rfl | with_reducible exact set_all _ _ rfl | with_reducible exact set_parts_s _ _ _ _ _ | with_reducible exact set_rough_s _ _ _ _ _ | with_reducible exact set_parts_f _ _ _ _ _) (by rfl) (by exact one_of rfl) (by first | exact ble_le rfl | (change _ + 1 ≤ 12; omega) | (change _ + 1 ≤ 6; omega)) ?_; (intro w H; simp only [Act.put]))
    | ((with_reducible show wpList _ _ _ (⟨_, .store 118 _ _, _, _, _, _⟩ :: _) _ _); refine H.st rfl rV rfl rfl (cells_agg _) (by repeat (first | with_reducible exact Upd.head _ | apply Upd.tail)) (by first | with_reducible exact set_all _ _ rfl) (by rfl) (by exact one_of rfl) (by first | exact ble_le rfl | (change _ + 1 ≤ 12; omega) | (change _ + 1 ≤ 6; omega)) ?_; (intro w H; simp only [Act.put]))
    | ((with_reducible show wpList _ _ _ (⟨_, .store 25 _ _, _, _, _, _⟩ :: _) _ _); refine H.st1 rfl oU rfl rfl (cells_int _ _) (by repeat (first | with_reducible exact Upd.head _ | apply Upd.tail)) (by first | with_reducible exact set_20 _ _ _ | with_reducible exact set_21 _ _ _ | with_reducible exact set_10 _ _) (by rfl) (by exact one_of rfl) (by first | exact ble_le rfl | (change _ + 1 ≤ 12; omega) | (change _ + 1 ≤ 6; omega)) ?_; (intro w H; simp only [Act.put]))
    )
              all_goals
                go_roundw
                case rel => exact ⟨j + 1, by omega, by go_num, by rw [os.out, decide_eq_true HZ.out]; simp, by rw [Nat.min_eq_right (by omega : 6 ≤ j + 1)]; exact H⟩
                case measure => simp [intOf]; omega
            · have z : (limb (a * b) j != 0) = true := by unfold limb; simpa using hz
              have HZ := Lib.hid hz
              clear hz
              go_wp2_with (first
    | ((with_reducible show wpList _ _ _ (⟨some 2, .box _ _, _, _, _, _⟩ :: _) _ _); refine H.box rfl rfl (cells_agg _) ?_; (intro ga w H; simp only [Act.put, List.setIfInBounds_toArray, List.set_cons_zero, List.set_cons_succ]))
    | ((with_reducible show wpList _ _ _ (⟨some 3, .box _ _, _, _, _, _⟩ :: _) _ _); refine H.box rfl rfl (cells_agg _) ?_; (intro gb w H; simp only [Act.put, List.setIfInBounds_toArray, List.set_cons_zero, List.set_cons_succ]))
    | ((with_reducible show wpList _ _ _ (⟨some 4, .alloc 54, _, _, _, _⟩ :: _) _ _); refine H.mk0 rfl rW rfl ?_; (intro gp w H; simp only [Act.put, List.setIfInBounds_toArray, List.set_cons_zero, List.set_cons_succ]))
    | ((with_reducible show wpList _ _ _ (⟨some 6, .alloc 118, _, _, _, _⟩ :: _) _ _); refine H.mk0 rfl rV rfl ?_; (intro gv w H; simp only [Act.put, List.setIfInBounds_toArray, List.set_cons_zero, List.set_cons_succ]))
    | ((with_reducible show wpList _ _ _ (⟨_, .box _ _, _, _, _, _⟩ :: _) _ _); refine H.box rfl rfl (cells_agg _) ?_; (intro g w H; simp only [Act.put, List.setIfInBounds_toArray, List.set_cons_zero, List.set_cons_succ]))
    | ((with_reducible show wpList _ _ _ (⟨_, .alloc 54, _, _, _, _⟩ :: _) _ _); refine H.mk0 rfl rW rfl ?_; (intro g w H; simp only [Act.put, List.setIfInBounds_toArray, List.set_cons_zero, List.set_cons_succ]))
    | ((with_reducible show wpList _ _ _ (⟨_, .alloc 118, _, _, _, _⟩ :: _) _ _); refine H.mk0 rfl rV rfl ?_; (intro g w H; simp only [Act.put, List.setIfInBounds_toArray, List.set_cons_zero, List.set_cons_succ]))
    | ((with_reducible show wpList _ _ _ (⟨_, .load 54 _, _, _, _, _⟩ :: _) _ _); refine H.ld rfl rW rfl rfl (by repeat (first | with_reducible exact List.mem_cons_self | apply List.mem_cons_of_mem)) (by first | with_reducible exact ext_limbs _ | with_reducible exact ext_parts_s _ _ _ _ | with_reducible exact ext_rough_s _ _ _ _ | with_reducible exact ext_parts_f _ _ _ _) (by rfl) ?_; simp only [Act.put, List.setIfInBounds_toArray, List.set_cons_zero, List.set_cons_succ])
    | ((with_reducible show wpList _ _ _ (⟨_, .load 118 _, _, _, _, _⟩ :: _) _ _); refine H.ld rfl rV rfl rfl (by repeat (first | with_reducible exact List.mem_cons_self | apply List.mem_cons_of_mem)) (by first | with_reducible exact ext_12 _) (by rfl) ?_; simp only [Act.put, List.setIfInBounds_toArray, List.set_cons_zero, List.set_cons_succ])
    | ((with_reducible show wpList _ _ _ (⟨_, .load 25 _, _, _, _, _⟩ :: _) _ _); refine H.ld1 rfl oU rfl rfl (by repeat (first | with_reducible exact List.mem_cons_self | apply List.mem_cons_of_mem)) (by first | with_reducible exact get_20 _ _ | with_reducible exact get_21 _ _ | with_reducible exact limbs_o0 _ | with_reducible exact limbs_o1 _ | with_reducible exact limbs_o2 _ | with_reducible exact limbs_o3 _ | with_reducible exact limbs_o4 _ | with_reducible exact limbs_o5 _) ?_; simp only [Act.put, List.setIfInBounds_toArray, List.set_cons_zero, List.set_cons_succ])
    | ((with_reducible show wpList _ _ _ (⟨_, .store 54 _ _, _, _, _, _⟩ :: _) _ _); refine H.st rfl rW rfl rfl (cells_agg _) (by repeat (first | with_reducible exact Upd.head _ | apply Upd.tail)) (by first | with_reducible exact set_zero6 _ rfl | with_reducible exact set_all _ _ rfl | with_reducible exact set_parts_s _ _ _ _ _ | with_reducible exact set_rough_s _ _ _ _ _ | with_reducible exact set_parts_f _ _ _ _ _) (by rfl) (by exact one_of rfl) (by first | exact ble_le rfl | (change _ + 1 ≤ 12; omega) | (change _ + 1 ≤ 6; omega)) ?_; (intro w H; simp only [Act.put]))
    | ((with_reducible show wpList _ _ _ (⟨_, .store 118 _ _, _, _, _, _⟩ :: _) _ _); refine H.st rfl rV rfl rfl (cells_agg _) (by repeat (first | with_reducible exact Upd.head _ | apply Upd.tail)) (by first | with_reducible exact set_all _ _ rfl) (by rfl) (by exact one_of rfl) (by first | exact ble_le rfl | (change _ + 1 ≤ 12; omega) | (change _ + 1 ≤ 6; omega)) ?_; (intro w H; simp only [Act.put]))
    | ((with_reducible show wpList _ _ _ (⟨_, .store 25 _ _, _, _, _, _⟩ :: _) _ _); refine H.st1 rfl oU rfl rfl (cells_int _ _) (by repeat (first | with_reducible exact Upd.head _ | apply Upd.tail)) (by first | with_reducible exact set_20 _ _ _ | with_reducible exact set_21 _ _ _ | with_reducible exact set_10 _ _) (by rfl) (by exact one_of rfl) (by first | exact ble_le rfl | (change _ + 1 ≤ 12; omega) | (change _ + 1 ≤ 6; omega)) ?_; (intro w H; simp only [Act.put]))
    )
              all_goals
                go_roundw
                case rel => exact ⟨j + 1, by omega, by go_num, by rw [os.out, decide_eq_false HZ.out]; simp, by rw [Nat.min_eq_right (by omega : 6 ≤ j + 1)]; exact H⟩
                case measure => simp [intOf]; omega
        · have hj12 : j = 12 := by omega
          have E := Lib.hid (prod_all a b j hj12 HA.out HB.out)
          rw [Nat.min_eq_right (by omega : 6 ≤ j), limbs_mod6] at H
          rw [E.out]
          subst hj12
          clear E
          go_wp2_with (first
    | ((with_reducible show wpList _ _ _ (⟨_, .box _ _, _, _, _, _⟩ :: _) _ _); refine H.box rfl rfl (cells_agg _) ?_; (intro g w H; simp only [Act.put, List.setIfInBounds_toArray, List.set_cons_zero, List.set_cons_succ]))
    | ((with_reducible show wpList _ _ _ (⟨_, .load 54 _, _, _, _, _⟩ :: _) _ _); refine H.ld rfl rW rfl rfl (by repeat (first | with_reducible exact List.mem_cons_self | apply List.mem_cons_of_mem)) (by first | with_reducible exact ext_limbs _ | with_reducible exact ext_parts_s _ _ _ _ | with_reducible exact ext_rough_s _ _ _ _ | with_reducible exact ext_parts_f _ _ _ _) (by rfl) ?_; simp only [Act.put, List.setIfInBounds_toArray, List.set_cons_zero, List.set_cons_succ])
    | ((with_reducible show wpList _ _ _ (⟨_, .load 118 _, _, _, _, _⟩ :: _) _ _); refine H.ld rfl rV rfl rfl (by repeat (first | with_reducible exact List.mem_cons_self | apply List.mem_cons_of_mem)) (by first | with_reducible exact ext_12 _) (by rfl) ?_; simp only [Act.put, List.setIfInBounds_toArray, List.set_cons_zero, List.set_cons_succ])
    | ((with_reducible show wpList _ _ _ (⟨_, .load 25 _, _, _, _, _⟩ :: _) _ _); refine H.ld1 rfl oU rfl rfl (by repeat (first | with_reducible exact List.mem_cons_self | apply List.mem_cons_of_mem)) (by first | with_reducible exact get_20 _ _ | with_reducible exact get_21 _ _ | with_reducible exact limbs_o0 _ | with_reducible exact limbs_o1 _ | with_reducible exact limbs_o2 _ | with_reducible exact limbs_o3 _ | with_reducible exact limbs_o4 _ | with_reducible exact limbs_o5 _) ?_; simp only [Act.put, List.setIfInBounds_toArray, List.set_cons_zero, List.set_cons_succ])
    | ((with_reducible show wpList _ _ _ (⟨_, .store 54 _ _, _, _, _, _⟩ :: _) _ _); refine H.st rfl rW rfl rfl (cells_agg _) (by repeat (first | with_reducible exact Upd.head _ | apply Upd.tail)) (set_limbs _ _) (by rfl) (by exact one_of rfl) (by first | exact ble_le rfl | (change _ + 1 ≤ 12; omega) | (change _ + 1 ≤ 6; omega)) ?_; (intro w H; simp only [Act.put]))
    )
          refine bodyPost_ret (results_ct rfl rfl (H.res rW (by repeat (first | with_reducible exact List.mem_cons_self | apply List.mem_cons_of_mem)) (ext_limbs _) (by rfl))) rfl ⟨?_, H.below⟩
          rfl
end Go.Proofs.YtdcgcjmajacgiaaDoor

namespace Go.Proofs.YtdcgcjmajacgiaaDoor
open Go.RowKit
set_option maxRecDepth 100000 in
theorem walk26 {P : Prop} (h : P := by
  go_wp2_with (first
    | ((with_reducible show wpList _ _ _ (⟨_, .box _ _, _, _, _, _⟩ :: _) _ _); refine H.box rfl rfl (cells_agg _) ?_; (intro g w H; simp only [Act.put, List.setIfInBounds_toArray, List.set_cons_zero, List.set_cons_succ]))
    | ((with_reducible show wpList _ _ _ (⟨_, .alloc 27, _, _, _, _⟩ :: _) _ _); refine H.mk0 rfl rB rfl ?_; (intro g w H; simp only [Act.put, List.setIfInBounds_toArray, List.set_cons_zero, List.set_cons_succ]))
    | ((with_reducible show wpList _ _ _ (⟨_, .alloc 73, _, _, _, _⟩ :: _) _ _); refine H.mk0 rfl rQ rfl ?_; (intro g w H; simp only [Act.put, List.setIfInBounds_toArray, List.set_cons_zero, List.set_cons_succ]))
    | ((with_reducible show wpList _ _ _ (⟨_, .alloc 72, _, _, _, _⟩ :: _) _ _); refine H.mk0 rfl rP rfl ?_; (intro g w H; simp only [Act.put, List.setIfInBounds_toArray, List.set_cons_zero, List.set_cons_succ]))
    | ((with_reducible show wpList _ _ _ (⟨_, .alloc 54, _, _, _, _⟩ :: _) _ _); refine H.mk0 rfl rW rfl ?_; (intro g w H; simp only [Act.put, List.setIfInBounds_toArray, List.set_cons_zero, List.set_cons_succ]))
    | ((with_reducible show wpList _ _ _ (⟨_, .load 27 _, _, _, _, _⟩ :: _) _ _); refine H.ld rfl rB rfl rfl (by repeat (first | with_reducible exact List.mem_cons_self | apply List.mem_cons_of_mem)) (by first | with_reducible exact ext_2 _ _) (by rfl) ?_; simp only [Act.put, List.setIfInBounds_toArray, List.set_cons_zero, List.set_cons_succ])
    | ((with_reducible show wpList _ _ _ (⟨_, .load 73 _, _, _, _, _⟩ :: _) _ _); refine H.ld rfl rQ rfl rfl (by repeat (first | with_reducible exact List.mem_cons_self | apply List.mem_cons_of_mem)) (by first | with_reducible exact ext_tri _ _ _ _ _ _ _ _ _ _ _ _) (by rfl) ?_; simp only [Act.put, List.setIfInBounds_toArray, List.set_cons_zero, List.set_cons_succ])
    | ((with_reducible show wpList _ _ _ (⟨_, .store 27 _ _, _, _, _, _⟩ :: _) _ _); refine H.st rfl rB rfl rfl (cells_agg _) (by repeat (first | with_reducible exact Upd.head _ | apply Upd.tail)) (set_bits _ _ _ _) (by rfl) (by exact one_of rfl) (by first | exact ble_le rfl | (change _ + 1 ≤ 12; omega) | (change _ + 1 ≤ 6; omega)) ?_; (intro w H; simp only [Act.put]))
    | ((with_reducible show wpList _ _ _ (⟨_, .store 73 _ _, _, _, _, _⟩ :: _) _ _); refine H.st rfl rQ rfl rfl (cells_agg _) (by repeat (first | with_reducible exact Upd.head _ | apply Upd.tail)) (set_tri _ _ _ _ _ _ _ _ _ _ _ _ _ _ _ _ _ _ _ _ _ _ _ _ ) (by rfl) (by exact one_of rfl) (by first | exact ble_le rfl | (change _ + 1 ≤ 12; omega) | (change _ + 1 ≤ 6; omega)) ?_; (intro w H; simp only [Act.put]))
    | ((with_reducible show wpList _ _ _ (⟨_, .store 72 _ _, _, _, _, _⟩ :: _) _ _); refine H.st rfl rP rfl rfl (cells_agg _) (by repeat (first | with_reducible exact Upd.head _ | apply Upd.tail)) (set_pw _ _ _ _ _ _ _ _) (by rfl) (by exact one_of rfl) (by first | exact ble_le rfl | (change _ + 1 ≤ 12; omega) | (change _ + 1 ≤ 6; omega)) ?_; (intro w H; simp only [Act.put]))
    | ((with_reducible show wpList _ _ _ (⟨_, .store 54 _ _, _, _, _, _⟩ :: _) _ _); refine H.st rfl rW rfl rfl (cells_agg _) (by repeat (first | with_reducible exact Upd.head _ | apply Upd.tail)) (set_limbs _ _) (by rfl) (by exact one_of rfl) (by first | exact ble_le rfl | (change _ + 1 ≤ 12; omega) | (change _ + 1 ≤ 6; omega)) ?_; (intro w H; simp only [Act.put]))
    | ((with_reducible show wpList _ _ _ (⟨_, .buildSlice 113 _ _, _, _, _, _⟩ :: _) _ _); refine H.bs2 rfl Tryd.underlying113 rB rfl rfl rfl  (by rfl) (by rfl)  (by decide) rfl ?_; (intro g w H; simp only [Act.put, List.setIfInBounds_toArray, List.set_cons_zero, List.set_cons_succ]))
    | ((with_reducible show wpList _ _ _ (⟨_, .buildSlice 114 _ _, _, _, _, _⟩ :: _) _ _); refine H.bs2 rfl Tryd.underlying114 rP rfl rfl rfl  (by rfl) (by rfl)  (by decide) rfl ?_; (intro g w H; simp only [Act.put, List.setIfInBounds_toArray, List.set_cons_zero, List.set_cons_succ]))
    | ((with_reducible show wpList _ _ _ (⟨_, .build 57 _, _, _, _, _⟩ :: _) _ _); refine wp_bld3 rfl rfl rfl rfl rfl (rough_nse _ _ _ ) ?_; simp only [Act.put, List.setIfInBounds_toArray, List.set_cons_zero, List.set_cons_succ])
    | ((with_reducible show wpList _ _ _ (⟨_, .load 72 _, _, _, _, _⟩ :: _) _ _); refine H.ld rfl rP rfl rfl (by repeat (first | with_reducible exact List.mem_cons_self | apply List.mem_cons_of_mem)) (by first | with_reducible exact ext_parts _ _ _ _ | with_reducible exact ext_t0 _ _ _ _ _ _ _ _ _ _ _ _ | with_reducible exact ext_t1 _ _ _ _ _ _ _ _ _ _ _ _ | with_reducible exact ext_t2 _ _ _ _ _ _ _ _ _ _ _ _) (by rfl) ?_; simp only [Act.put, List.setIfInBounds_toArray, List.set_cons_zero, List.set_cons_succ])
    | ((with_reducible show Code.wp _ (.region 4 _ true) _ _ _); refine H.heldSub rfl (List.Sublist.refl _) ?_; intro H; refine H.takeRun (by repeat (first | with_reducible exact List.Sublist.refl _ | with_reducible apply List.Sublist.cons_cons | with_reducible apply List.Sublist.cons)) 0 rfl (by kernel_rfl) (by kernel_rfl) (by kernel_rfl) (fun _ _ _ _ h => h) rfl (by intro w; go_simp; (try with_reducible rfl)) ?_; (try simp only [Act.put, List.setIfInBounds_toArray, List.set_cons_zero, List.set_cons_succ]); (try simp only [List.getElem_toArray, List.getElem_cons_zero, List.getElem_cons_succ]); refine H.tk (by repeat (first | with_reducible exact List.Sublist.refl _ | with_reducible apply List.Sublist.cons_cons | with_reducible apply List.Sublist.cons)) 1 rfl (by kernel_rfl) (by kernel_rfl) (by kernel_rfl) (fun _ _ _ _ h => h) rfl rP rfl rfl (by repeat (first | with_reducible exact List.mem_cons_self | apply List.mem_cons_of_mem)) (by first | with_reducible exact ext_parts _ _ _ _ | with_reducible exact ext_t0 _ _ _ _ _ _ _ _ _ _ _ _ | with_reducible exact ext_t1 _ _ _ _ _ _ _ _ _ _ _ _ | with_reducible exact ext_t2 _ _ _ _ _ _ _ _ _ _ _ _) (by rfl) ?_; (try simp only [Act.put, List.setIfInBounds_toArray, List.set_cons_zero, List.set_cons_succ]); (try simp only [List.getElem_toArray, List.getElem_cons_zero, List.getElem_cons_succ]); refine H.takeRun (by repeat (first | with_reducible exact List.Sublist.refl _ | with_reducible apply List.Sublist.cons_cons | with_reducible apply List.Sublist.cons)) 2 rfl (by kernel_rfl) (by kernel_rfl) (by kernel_rfl) (fun _ _ _ _ h => h) rfl (by intro w; go_simp; (try with_reducible rfl)) ?_; (try simp only [Act.put, List.setIfInBounds_toArray, List.set_cons_zero, List.set_cons_succ]); (try simp only [List.getElem_toArray, List.getElem_cons_zero, List.getElem_cons_succ]); refine H.tk (by repeat (first | with_reducible exact List.Sublist.refl _ | with_reducible apply List.Sublist.cons_cons | with_reducible apply List.Sublist.cons)) 3 rfl (by kernel_rfl) (by kernel_rfl) (by kernel_rfl) (fun _ _ _ _ h => h) rfl rP rfl rfl (by repeat (first | with_reducible exact List.mem_cons_self | apply List.mem_cons_of_mem)) (by first | with_reducible exact ext_parts _ _ _ _ | with_reducible exact ext_t0 _ _ _ _ _ _ _ _ _ _ _ _ | with_reducible exact ext_t1 _ _ _ _ _ _ _ _ _ _ _ _ | with_reducible exact ext_t2 _ _ _ _ _ _ _ _ _ _ _ _) (by rfl) ?_; (try simp only [Act.put, List.setIfInBounds_toArray, List.set_cons_zero, List.set_cons_succ]); (try simp only [List.getElem_toArray, List.getElem_cons_zero, List.getElem_cons_succ]); refine held_two (i := 4) (k := 5) (by kernel_rfl) rfl rfl rfl rfl ?_ ?_; (refine H.oal rP rfl ?_; intro g w H; refine H.next (by repeat (first | with_reducible exact List.Sublist.refl _ | with_reducible apply List.Sublist.cons_cons | with_reducible apply List.Sublist.cons)) ?_; (try simp only [Act.put, List.setIfInBounds_toArray, List.set_cons_zero, List.set_cons_succ]); (try simp only [List.getElem_toArray, List.getElem_cons_zero, List.getElem_cons_succ]); refine held_one (i := 5) (by kernel_rfl) rfl rfl ?_; refine H.oal rP rfl ?_; intro g w H; refine H.next (by repeat (first | with_reducible exact List.Sublist.refl _ | with_reducible apply List.Sublist.cons_cons | with_reducible apply List.Sublist.cons)) ?_; (try simp only [Act.put, List.setIfInBounds_toArray, List.set_cons_zero, List.set_cons_succ]); (try simp only [List.getElem_toArray, List.getElem_cons_zero, List.getElem_cons_succ]); refine held_one (i := 6) (by kernel_rfl) rfl rfl ?_; refine H.ost rP rfl rfl (cells_agg _) (by repeat (first | with_reducible exact Upd.head _ | apply Upd.tail)) (set_pw _ _ _ _ _ _ _ _) (by rfl) (by exact one_of rfl) (by first | exact ble_le rfl | (change _ + 1 ≤ 12; omega) | (change _ + 1 ≤ 6; omega)) ?_; intro w H; refine H.next (by repeat (first | with_reducible exact List.Sublist.refl _ | with_reducible apply List.Sublist.cons_cons | with_reducible apply List.Sublist.cons)) ?_; (try simp only [Act.put]); refine held_one (i := 7) (by kernel_rfl) rfl rfl ?_; refine H.ost rP rfl rfl (cells_agg _) (by repeat (first | with_reducible exact Upd.head _ | apply Upd.tail)) (set_pw _ _ _ _ _ _ _ _) (by rfl) (by exact one_of rfl) (by first | exact ble_le rfl | (change _ + 1 ≤ 12; omega) | (change _ + 1 ≤ 6; omega)) ?_; intro w H; refine H.next (by repeat (first | with_reducible exact List.Sublist.refl _ | with_reducible apply List.Sublist.cons_cons | with_reducible apply List.Sublist.cons)) ?_; (try simp only [Act.put]); refine wpAnyH_done (by kernel_rfl) ?_ _); rotate_left; (refine H.oal rP rfl ?_; intro g w H; refine H.next (by repeat (first | with_reducible exact List.Sublist.refl _ | with_reducible apply List.Sublist.cons_cons | with_reducible apply List.Sublist.cons)) ?_; (try simp only [Act.put, List.setIfInBounds_toArray, List.set_cons_zero, List.set_cons_succ]); (try simp only [List.getElem_toArray, List.getElem_cons_zero, List.getElem_cons_succ]); refine held_one (i := 4) (by kernel_rfl) rfl rfl ?_; refine H.oal rP rfl ?_; intro g w H; refine H.next (by repeat (first | with_reducible exact List.Sublist.refl _ | with_reducible apply List.Sublist.cons_cons | with_reducible apply List.Sublist.cons)) ?_; (try simp only [Act.put, List.setIfInBounds_toArray, List.set_cons_zero, List.set_cons_succ]); (try simp only [List.getElem_toArray, List.getElem_cons_zero, List.getElem_cons_succ]); refine held_one (i := 6) (by kernel_rfl) rfl rfl ?_; refine H.ost rP rfl rfl (cells_agg _) (by repeat (first | with_reducible exact Upd.head _ | apply Upd.tail)) (set_pw _ _ _ _ _ _ _ _) (by rfl) (by exact one_of rfl) (by first | exact ble_le rfl | (change _ + 1 ≤ 12; omega) | (change _ + 1 ≤ 6; omega)) ?_; intro w H; refine H.next (by repeat (first | with_reducible exact List.Sublist.refl _ | with_reducible apply List.Sublist.cons_cons | with_reducible apply List.Sublist.cons)) ?_; (try simp only [Act.put]); refine held_one (i := 7) (by kernel_rfl) rfl rfl ?_; refine H.ost rP rfl rfl (cells_agg _) (by repeat (first | with_reducible exact Upd.head _ | apply Upd.tail)) (set_pw _ _ _ _ _ _ _ _) (by rfl) (by exact one_of rfl) (by first | exact ble_le rfl | (change _ + 1 ≤ 12; omega) | (change _ + 1 ≤ 6; omega)) ?_; intro w H; refine H.next (by repeat (first | with_reducible exact List.Sublist.refl _ | with_reducible apply List.Sublist.cons_cons | with_reducible apply List.Sublist.cons)) ?_; (try simp only [Act.put]); refine wpAnyH_done (by kernel_rfl) ?_ _))
    | ((with_reducible show Code.wp _ (.region 5 _ true) _ _ _); refine H.heldSub rfl (List.Sublist.refl _) ?_; intro H; refine H.tk (by repeat (first | with_reducible exact List.Sublist.refl _ | with_reducible apply List.Sublist.cons_cons | with_reducible apply List.Sublist.cons)) 0 rfl (by kernel_rfl) (by kernel_rfl) (by kernel_rfl) (fun _ _ _ _ h => h) rfl rP rfl rfl (by repeat (first | with_reducible exact List.mem_cons_self | apply List.mem_cons_of_mem)) (by first | with_reducible exact ext_parts _ _ _ _ | with_reducible exact ext_t0 _ _ _ _ _ _ _ _ _ _ _ _ | with_reducible exact ext_t1 _ _ _ _ _ _ _ _ _ _ _ _ | with_reducible exact ext_t2 _ _ _ _ _ _ _ _ _ _ _ _) (by rfl) ?_; (try simp only [Act.put, List.setIfInBounds_toArray, List.set_cons_zero, List.set_cons_succ]); (try simp only [List.getElem_toArray, List.getElem_cons_zero, List.getElem_cons_succ]); refine H.tk (by repeat (first | with_reducible exact List.Sublist.refl _ | with_reducible apply List.Sublist.cons_cons | with_reducible apply List.Sublist.cons)) 2 rfl (by kernel_rfl) (by kernel_rfl) (by kernel_rfl) (fun _ _ _ _ h => h) rfl rP rfl rfl (by repeat (first | with_reducible exact List.mem_cons_self | apply List.mem_cons_of_mem)) (by first | with_reducible exact ext_parts _ _ _ _ | with_reducible exact ext_t0 _ _ _ _ _ _ _ _ _ _ _ _ | with_reducible exact ext_t1 _ _ _ _ _ _ _ _ _ _ _ _ | with_reducible exact ext_t2 _ _ _ _ _ _ _ _ _ _ _ _) (by rfl) ?_; (try simp only [Act.put, List.setIfInBounds_toArray, List.set_cons_zero, List.set_cons_succ]); (try simp only [List.getElem_toArray, List.getElem_cons_zero, List.getElem_cons_succ]); refine held_one (i := 1) (by kernel_rfl) rfl rfl ?_; unfold Oper.wp; go_simp; (first | (go_at_call 67; ((with_reducible refine (cb1 _).mono ?_); rintro e w ⟨rfl, hb⟩; replace H := H.call hb; clear hb)) | (go_at_call 67; ((with_reducible refine (cb2 _).mono ?_); rintro e w ⟨rfl, hb⟩; replace H := H.call hb; clear hb))); refine H.next (by repeat (first | with_reducible exact List.Sublist.refl _ | with_reducible apply List.Sublist.cons_cons | with_reducible apply List.Sublist.cons)) ?_; (try simp only [Act.put, List.setIfInBounds_toArray, List.set_cons_zero, List.set_cons_succ]); (try simp only [List.getElem_toArray, List.getElem_cons_zero, List.getElem_cons_succ]); refine held_one (i := 3) (by kernel_rfl) rfl rfl ?_; unfold Oper.wp; go_simp; (first | (go_at_call 67; ((with_reducible refine (cb1 _).mono ?_); rintro e w ⟨rfl, hb⟩; replace H := H.call hb; clear hb)) | (go_at_call 67; ((with_reducible refine (cb2 _).mono ?_); rintro e w ⟨rfl, hb⟩; replace H := H.call hb; clear hb))); refine H.next (by repeat (first | with_reducible exact List.Sublist.refl _ | with_reducible apply List.Sublist.cons_cons | with_reducible apply List.Sublist.cons)) ?_; (try simp only [Act.put, List.setIfInBounds_toArray, List.set_cons_zero, List.set_cons_succ]); (try simp only [List.getElem_toArray, List.getElem_cons_zero, List.getElem_cons_succ]); refine H.takeRun (by repeat (first | with_reducible exact List.Sublist.refl _ | with_reducible apply List.Sublist.cons_cons | with_reducible apply List.Sublist.cons)) 4 rfl (by kernel_rfl) (by kernel_rfl) (by kernel_rfl) (fun _ _ _ _ h => h) rfl (by intro w; go_simp; (try with_reducible rfl)) ?_; (try simp only [Act.put, List.setIfInBounds_toArray, List.set_cons_zero, List.set_cons_succ]); (try simp only [List.getElem_toArray, List.getElem_cons_zero, List.getElem_cons_succ]); refine H.takeRun (by repeat (first | with_reducible exact List.Sublist.refl _ | with_reducible apply List.Sublist.cons_cons | with_reducible apply List.Sublist.cons)) 5 rfl (by kernel_rfl) (by kernel_rfl) (by kernel_rfl) (fun _ _ _ _ h => h) rfl (by intro w; go_simp; (try with_reducible rfl)) ?_; (try simp only [Act.put, List.setIfInBounds_toArray, List.set_cons_zero, List.set_cons_succ]); (try simp only [List.getElem_toArray, List.getElem_cons_zero, List.getElem_cons_succ]); refine wpAnyH_done (by kernel_rfl) ?_ _)
    | ((with_reducible show wpList _ _ _ (⟨_, .load 54 _, _, _, _, _⟩ :: _) _ _); refine H.ld rfl rW rfl rfl (by repeat (first | with_reducible exact List.mem_cons_self | apply List.mem_cons_of_mem)) (by first | with_reducible exact ext_limbs _ | with_reducible exact ext_parts_s _ _ _ _ | with_reducible exact ext_rough_s _ _ _ _ | with_reducible exact ext_parts_f _ _ _ _) (by rfl) ?_; simp only [Act.put, List.setIfInBounds_toArray, List.set_cons_zero, List.set_cons_succ])
    | ((with_reducible show wpList _ _ _ (⟨_, .load 3 _, _, _, _, _⟩ :: _) _ _); refine H.ld1 rfl oI rfl rfl (by repeat (first | with_reducible exact List.mem_cons_self | apply List.mem_cons_of_mem)) (by first | with_reducible exact get_rough7 _ _ _ _ | with_reducible exact get_parts7 _ _ _ _ | with_reducible exact get_10 _) ?_; simp only [Act.put, List.setIfInBounds_toArray, List.set_cons_zero, List.set_cons_succ])
    | (go_at_call 66; ((with_reducible refine (cO _ _ (HT.out.below H.below) (H.blk (_, 27, _) (by repeat (first | with_reducible exact List.mem_cons_self | apply List.mem_cons_of_mem)))).mono ?_); rintro e w ⟨rfl, hb⟩; replace H := H.call hb; clear hb))
    | (go_at_call 68; ((with_reducible refine (cn1 _).mono ?_); rintro e w ⟨rfl, hb⟩; replace H := H.call hb; clear hb))
    | (go_at_call 69; ((with_reducible refine (cC _ _ (H.blk (_, 72, _) (by repeat (first | with_reducible exact List.mem_cons_self | apply List.mem_cons_of_mem)))).mono ?_); rintro e w ⟨rfl, hb⟩; replace H := H.call hb; clear hb))
    | (go_at_call 68; ((with_reducible refine (cn2 _).mono ?_); rintro e w ⟨rfl, hb⟩; replace H := H.call hb; clear hb))
    | (go_at_call 70; ((with_reducible refine (ci1 _).mono ?_); rintro e w ⟨rfl, hb⟩; replace H := H.call hb; clear hb))
    | (go_at_call 70; ((with_reducible refine (ci2 _).mono ?_); rintro e w ⟨rfl, hb⟩; replace H := H.call hb; clear hb))
    | (go_at_call 71; ((with_reducible refine (cz1 _).mono ?_); rintro e w ⟨rfl, hb⟩; replace H := H.call hb; clear hb))
    | (go_at_call 71; ((with_reducible refine (cz2 _).mono ?_); rintro e w ⟨rfl, hb⟩; replace H := H.call hb; clear hb))
    | (go_at_call 24; ((with_reducible refine (cNN _).mono ?_); rintro e w ⟨rfl, hb⟩; replace H := H.call hb; clear hb))
    | (go_at_call 18; ((with_reducible refine (cII _).mono ?_); rintro e w ⟨rfl, hb⟩; replace H := H.call hb; clear hb))
    | (go_at_call 19; ((with_reducible refine (cZZ _).mono ?_); rintro e w ⟨rfl, hb⟩; replace H := H.call hb; clear hb))
    | (go_at_call 62; ((with_reducible refine (cM _).mono ?_); rintro e w ⟨rfl, hb⟩; replace H := H.call hb; clear hb))
    | (go_at_call 32; ((with_reducible refine (cK _ (HT.out.below H.below)).mono ?_); rintro e w ⟨rfl, hb⟩; replace H := H.call hb; clear hb))
    )
  all_goals (first | (refine bodyPost_ret (results_ctt rfl rfl (H.res rB (by repeat (first | with_reducible exact List.mem_cons_self | apply List.mem_cons_of_mem)) (by first | with_reducible exact ext_2 _ _) (by rfl))) rfl ⟨?_, H.below⟩; exact by rw [show BV 0 = .agg #[.int .u64 (limb 0 1), .int .u64 (limb 0 0)] from rfl, limb_zero, limb_zero]; rfl) | (refine bodyPost_ret (results_ctt rfl rfl (H.res rB (by repeat (first | with_reducible exact List.mem_cons_self | apply List.mem_cons_of_mem)) (by first | with_reducible exact ext_2 _ _) (by rfl))) rfl ⟨?_, H.below⟩; exact rfl))) : P := h
set_option maxHeartbeats 1600000 in
set_option maxRecDepth 100000 in
theorem mulMul_no (f m a b : Nat) (c1 s1 f1 : Nat) (x1 : Int) (c2 s2 f2 : Nat) (x2 : Int) (c3 s3 f3 : Nat) (x3 : Int) (w : World) (hT : Tab w) (cO : ∀ w g, Tab w → Blk 27 w g (cat2 (bc a) (bc b)) → Calls Tryd.prog 66 #[.int .u8 f, .int .u8 m, .slice (some ⟨g, 0, none⟩) 2 2] w fun e w' => e = .returned (.tuple #[.agg (tri c1 s1 x1 f1 c2 s2 x2 f2 c3 s3 x3 f3), .bool false]) ∧ Below w.heap.size w w') :
    Calls Tryd.prog 26 #[.int .u8 f, .int .u8 m, BV a, BV b] w fun e w' => e = .returned (.tuple #[BV 0, .int .u8 0, .int .i64 2]) ∧ Below w.heap.size w w' := by
  have H := Own.start w
  have HT := Lib.hid hT
  clear hT
  go_enter Tryd.func26, Tryd.ntmps26
  exact walk26
set_option maxHeartbeats 1600000 in
set_option maxRecDepth 100000 in
theorem mulMul_N1 (f m a b : Nat) (c1 s1 f1 : Nat) (x1 : Int) (c2 s2 f2 : Nat) (x2 : Int) (c3 s3 f3 : Nat) (x3 : Int) (b1 b2 : Bool) (w : World) (hT : Tab w) (cO : ∀ w g, Tab w → Blk 27 w g (cat2 (bc a) (bc b)) → Calls Tryd.prog 66 #[.int .u8 f, .int .u8 m, .slice (some ⟨g, 0, none⟩) 2 2] w fun e w' => e = .returned (.tuple #[.agg (tri c1 s1 x1 f1 c2 s2 x2 f2 c3 s3 x3 f3), .bool true]) ∧ Below w.heap.size w w') (cb1 : ∀ w, Calls Tryd.prog 67 #[PV c1 s1 x1 f1] w fun e w' => e = .returned (.bool b1) ∧ Below w.heap.size w w') (cb2 : ∀ w, Calls Tryd.prog 67 #[PV c2 s2 x2 f2] w fun e w' => e = .returned (.bool b2) ∧ Below w.heap.size w w') (cn1 : ∀ w, Calls Tryd.prog 68 #[PV c1 s1 x1 f1] w fun e w' => e = .returned (.bool true) ∧ Below w.heap.size w w') (cn : Nat) (fl : Int) (cC : ∀ w g, Blk 72 w g (cat2 (parts c1 s1 x1 f1) (parts c2 s2 x2 f2)) → Calls Tryd.prog 69 #[.int .u8 f, .slice (some ⟨g, 0, none⟩) 2 2] w fun e w' => e = .returned (.tuple #[BV cn, .int .u8 fl, .int .i64 0]) ∧ Below w.heap.size w w') :
    Calls Tryd.prog 26 #[.int .u8 f, .int .u8 m, BV a, BV b] w fun e w' => e = .returned (.tuple #[BV cn, .int .u8 fl, .int .i64 0]) ∧ Below w.heap.size w w' := by
  have H := Own.start w
  have HT := Lib.hid hT
  clear hT
  go_enter Tryd.func26, Tryd.ntmps26
  exact walk26
set_option maxHeartbeats 1600000 in
set_option maxRecDepth 100000 in
theorem mulMul_N2 (f m a b : Nat) (c1 s1 f1 : Nat) (x1 : Int) (c2 s2 f2 : Nat) (x2 : Int) (c3 s3 f3 : Nat) (x3 : Int) (b1 b2 : Bool) (w : World) (hT : Tab w) (cO : ∀ w g, Tab w → Blk 27 w g (cat2 (bc a) (bc b)) → Calls Tryd.prog 66 #[.int .u8 f, .int .u8 m, .slice (some ⟨g, 0, none⟩) 2 2] w fun e w' => e = .returned (.tuple #[.agg (tri c1 s1 x1 f1 c2 s2 x2 f2 c3 s3 x3 f3), .bool true]) ∧ Below w.heap.size w w') (cb1 : ∀ w, Calls Tryd.prog 67 #[PV c1 s1 x1 f1] w fun e w' => e = .returned (.bool b1) ∧ Below w.heap.size w w') (cb2 : ∀ w, Calls Tryd.prog 67 #[PV c2 s2 x2 f2] w fun e w' => e = .returned (.bool b2) ∧ Below w.heap.size w w') (cn1 : ∀ w, Calls Tryd.prog 68 #[PV c1 s1 x1 f1] w fun e w' => e = .returned (.bool false) ∧ Below w.heap.size w w') (cn2 : ∀ w, Calls Tryd.prog 68 #[PV c2 s2 x2 f2] w fun e w' => e = .returned (.bool true) ∧ Below w.heap.size w w') (cn : Nat) (fl : Int) (cC : ∀ w g, Blk 72 w g (cat2 (parts c1 s1 x1 f1) (parts c2 s2 x2 f2)) → Calls Tryd.prog 69 #[.int .u8 f, .slice (some ⟨g, 0, none⟩) 2 2] w fun e w' => e = .returned (.tuple #[BV cn, .int .u8 fl, .int .i64 0]) ∧ Below w.heap.size w w') :
    Calls Tryd.prog 26 #[.int .u8 f, .int .u8 m, BV a, BV b] w fun e w' => e = .returned (.tuple #[BV cn, .int .u8 fl, .int .i64 0]) ∧ Below w.heap.size w w' := by
  have H := Own.start w
  have HT := Lib.hid hT
  clear hT
  go_enter Tryd.func26, Tryd.ntmps26
  exact walk26
end Go.Proofs.YtdcgcjmajacgiaaDoor

namespace Go.Proofs.YtdcgcjmajacgiaaDoor
open Go.RowKit
set_option maxHeartbeats 1600000 in
set_option maxRecDepth 100000 in
theorem mulMul_IZ (f m a b : Nat) (c1 s1 f1 : Nat) (x1 : Int) (c2 s2 f2 : Nat) (x2 : Int) (c3 s3 f3 : Nat) (x3 : Int) (b1 b2 : Bool) (w : World) (hT : Tab w) (cO : ∀ w g, Tab w → Blk 27 w g (cat2 (bc a) (bc b)) → Calls Tryd.prog 66 #[.int .u8 f, .int .u8 m, .slice (some ⟨g, 0, none⟩) 2 2] w fun e w' => e = .returned (.tuple #[.agg (tri c1 s1 x1 f1 c2 s2 x2 f2 c3 s3 x3 f3), .bool true]) ∧ Below w.heap.size w w') (cb1 : ∀ w, Calls Tryd.prog 67 #[PV c1 s1 x1 f1] w fun e w' => e = .returned (.bool b1) ∧ Below w.heap.size w w') (cb2 : ∀ w, Calls Tryd.prog 67 #[PV c2 s2 x2 f2] w fun e w' => e = .returned (.bool b2) ∧ Below w.heap.size w w') (cn1 : ∀ w, Calls Tryd.prog 68 #[PV c1 s1 x1 f1] w fun e w' => e = .returned (.bool false) ∧ Below w.heap.size w w') (cn2 : ∀ w, Calls Tryd.prog 68 #[PV c2 s2 x2 f2] w fun e w' => e = .returned (.bool false) ∧ Below w.heap.size w w') (ci1 : ∀ w, Calls Tryd.prog 70 #[PV c1 s1 x1 f1] w fun e w' => e = .returned (.bool true) ∧ Below w.heap.size w w') (ci2 : ∀ w, Calls Tryd.prog 70 #[PV c2 s2 x2 f2] w fun e w' => e = .returned (.bool false) ∧ Below w.heap.size w w') (cz1 : ∀ w, Calls Tryd.prog 71 #[PV c1 s1 x1 f1] w fun e w' => e = .returned (.bool false) ∧ Below w.heap.size w w') (cz2 : ∀ w, Calls Tryd.prog 71 #[PV c2 s2 x2 f2] w fun e w' => e = .returned (.bool true) ∧ Below w.heap.size w w') (nn : Nat) (cNN : ∀ w, Calls Tryd.prog 24 #[.int .u8 f] w fun e w' => e = .returned (BV nn) ∧ Below w.heap.size w w') :
    Calls Tryd.prog 26 #[.int .u8 f, .int .u8 m, BV a, BV b] w fun e w' => e = .returned (.tuple #[BV nn, .int .u8 16, .int .i64 0]) ∧ Below w.heap.size w w' := by
  have H := Own.start w
  have HT := Lib.hid hT
  clear hT
  go_enter Tryd.func26, Tryd.ntmps26
  exact walk26
set_option maxHeartbeats 1600000 in
set_option maxRecDepth 100000 in
theorem mulMul_ZI (f m a b : Nat) (c1 s1 f1 : Nat) (x1 : Int) (c2 s2 f2 : Nat) (x2 : Int) (c3 s3 f3 : Nat) (x3 : Int) (b1 b2 : Bool) (w : World) (hT : Tab w) (cO : ∀ w g, Tab w → Blk 27 w g (cat2 (bc a) (bc b)) → Calls Tryd.prog 66 #[.int .u8 f, .int .u8 m, .slice (some ⟨g, 0, none⟩) 2 2] w fun e w' => e = .returned (.tuple #[.agg (tri c1 s1 x1 f1 c2 s2 x2 f2 c3 s3 x3 f3), .bool true]) ∧ Below w.heap.size w w') (cb1 : ∀ w, Calls Tryd.prog 67 #[PV c1 s1 x1 f1] w fun e w' => e = .returned (.bool b1) ∧ Below w.heap.size w w') (cb2 : ∀ w, Calls Tryd.prog 67 #[PV c2 s2 x2 f2] w fun e w' => e = .returned (.bool b2) ∧ Below w.heap.size w w') (cn1 : ∀ w, Calls Tryd.prog 68 #[PV c1 s1 x1 f1] w fun e w' => e = .returned (.bool false) ∧ Below w.heap.size w w') (cn2 : ∀ w, Calls Tryd.prog 68 #[PV c2 s2 x2 f2] w fun e w' => e = .returned (.bool false) ∧ Below w.heap.size w w') (ci1 : ∀ w, Calls Tryd.prog 70 #[PV c1 s1 x1 f1] w fun e w' => e = .returned (.bool false) ∧ Below w.heap.size w w') (ci2 : ∀ w, Calls Tryd.prog 70 #[PV c2 s2 x2 f2] w fun e w' => e = .returned (.bool true) ∧ Below w.heap.size w w') (cz1 : ∀ w, Calls Tryd.prog 71 #[PV c1 s1 x1 f1] w fun e w' => e = .returned (.bool true) ∧ Below w.heap.size w w') (cz2 : ∀ w, Calls Tryd.prog 71 #[PV c2 s2 x2 f2] w fun e w' => e = .returned (.bool false) ∧ Below w.heap.size w w') (nn : Nat) (cNN : ∀ w, Calls Tryd.prog 24 #[.int .u8 f] w fun e w' => e = .returned (BV nn) ∧ Below w.heap.size w w') :
    Calls Tryd.prog 26 #[.int .u8 f, .int .u8 m, BV a, BV b] w fun e w' => e = .returned (.tuple #[BV nn, .int .u8 16, .int .i64 0]) ∧ Below w.heap.size w w' := by
  have H := Own.start w
  have HT := Lib.hid hT
  clear hT
  go_enter Tryd.func26, Tryd.ntmps26
  exact walk26
set_option maxHeartbeats 1600000 in
set_option maxRecDepth 100000 in
theorem mulMul_II (f m a b : Nat) (c1 s1 f1 : Nat) (x1 : Int) (c2 s2 f2 : Nat) (x2 : Int) (c3 s3 f3 : Nat) (x3 : Int) (b1 b2 : Bool) (w : World) (hT : Tab w) (cO : ∀ w g, Tab w → Blk 27 w g (cat2 (bc a) (bc b)) → Calls Tryd.prog 66 #[.int .u8 f, .int .u8 m, .slice (some ⟨g, 0, none⟩) 2 2] w fun e w' => e = .returned (.tuple #[.agg (tri c1 s1 x1 f1 c2 s2 x2 f2 c3 s3 x3 f3), .bool true]) ∧ Below w.heap.size w w') (cb1 : ∀ w, Calls Tryd.prog 67 #[PV c1 s1 x1 f1] w fun e w' => e = .returned (.bool b1) ∧ Below w.heap.size w w') (cb2 : ∀ w, Calls Tryd.prog 67 #[PV c2 s2 x2 f2] w fun e w' => e = .returned (.bool b2) ∧ Below w.heap.size w w') (cn1 : ∀ w, Calls Tryd.prog 68 #[PV c1 s1 x1 f1] w fun e w' => e = .returned (.bool false) ∧ Below w.heap.size w w') (cn2 : ∀ w, Calls Tryd.prog 68 #[PV c2 s2 x2 f2] w fun e w' => e = .returned (.bool false) ∧ Below w.heap.size w w') (ci1 : ∀ w, Calls Tryd.prog 70 #[PV c1 s1 x1 f1] w fun e w' => e = .returned (.bool true) ∧ Below w.heap.size w w') (ci2 : ∀ w, Calls Tryd.prog 70 #[PV c2 s2 x2 f2] w fun e w' => e = .returned (.bool true) ∧ Below w.heap.size w w') (cz1 : ∀ w, Calls Tryd.prog 71 #[PV c1 s1 x1 f1] w fun e w' => e = .returned (.bool false) ∧ Below w.heap.size w w') (cz2 : ∀ w, Calls Tryd.prog 71 #[PV c2 s2 x2 f2] w fun e w' => e = .returned (.bool false) ∧ Below w.heap.size w w') (ii : Nat) (cII : ∀ w, Calls Tryd.prog 18 #[.int .u8 f, .bool (!(b1 == b2))] w fun e w' => e = .returned (BV ii) ∧ Below w.heap.size w w') :
    Calls Tryd.prog 26 #[.int .u8 f, .int .u8 m, BV a, BV b] w fun e w' => e = .returned (.tuple #[BV ii, .int .u8 0, .int .i64 0]) ∧ Below w.heap.size w w' := by
  have H := Own.start w
  have HT := Lib.hid hT
  clear hT
  go_enter Tryd.func26, Tryd.ntmps26
  exact walk26
end Go.Proofs.YtdcgcjmajacgiaaDoor

namespace Go.Proofs.YtdcgcjmajacgiaaDoor
open Go.RowKit
set_option maxHeartbeats 1600000 in
set_option maxRecDepth 100000 in
theorem mulMul_IF (f m a b : Nat) (c1 s1 f1 : Nat) (x1 : Int) (c2 s2 f2 : Nat) (x2 : Int) (c3 s3 f3 : Nat) (x3 : Int) (b1 b2 : Bool) (w : World) (hT : Tab w) (cO : ∀ w g, Tab w → Blk 27 w g (cat2 (bc a) (bc b)) → Calls Tryd.prog 66 #[.int .u8 f, .int .u8 m, .slice (some ⟨g, 0, none⟩) 2 2] w fun e w' => e = .returned (.tuple #[.agg (tri c1 s1 x1 f1 c2 s2 x2 f2 c3 s3 x3 f3), .bool true]) ∧ Below w.heap.size w w') (cb1 : ∀ w, Calls Tryd.prog 67 #[PV c1 s1 x1 f1] w fun e w' => e = .returned (.bool b1) ∧ Below w.heap.size w w') (cb2 : ∀ w, Calls Tryd.prog 67 #[PV c2 s2 x2 f2] w fun e w' => e = .returned (.bool b2) ∧ Below w.heap.size w w') (cn1 : ∀ w, Calls Tryd.prog 68 #[PV c1 s1 x1 f1] w fun e w' => e = .returned (.bool false) ∧ Below w.heap.size w w') (cn2 : ∀ w, Calls Tryd.prog 68 #[PV c2 s2 x2 f2] w fun e w' => e = .returned (.bool false) ∧ Below w.heap.size w w') (ci1 : ∀ w, Calls Tryd.prog 70 #[PV c1 s1 x1 f1] w fun e w' => e = .returned (.bool true) ∧ Below w.heap.size w w') (ci2 : ∀ w, Calls Tryd.prog 70 #[PV c2 s2 x2 f2] w fun e w' => e = .returned (.bool false) ∧ Below w.heap.size w w') (cz1 : ∀ w, Calls Tryd.prog 71 #[PV c1 s1 x1 f1] w fun e w' => e = .returned (.bool false) ∧ Below w.heap.size w w') (cz2 : ∀ w, Calls Tryd.prog 71 #[PV c2 s2 x2 f2] w fun e w' => e = .returned (.bool false) ∧ Below w.heap.size w w') (ii : Nat) (cII : ∀ w, Calls Tryd.prog 18 #[.int .u8 f, .bool (!(b1 == b2))] w fun e w' => e = .returned (BV ii) ∧ Below w.heap.size w w') :
    Calls Tryd.prog 26 #[.int .u8 f, .int .u8 m, BV a, BV b] w fun e w' => e = .returned (.tuple #[BV ii, .int .u8 0, .int .i64 0]) ∧ Below w.heap.size w w' := by
  have H := Own.start w
  have HT := Lib.hid hT
  clear hT
  go_enter Tryd.func26, Tryd.ntmps26
  exact walk26
set_option maxHeartbeats 1600000 in
set_option maxRecDepth 100000 in
theorem mulMul_FI (f m a b : Nat) (c1 s1 f1 : Nat) (x1 : Int) (c2 s2 f2 : Nat) (x2 : Int) (c3 s3 f3 : Nat) (x3 : Int) (b1 b2 : Bool) (w : World) (hT : Tab w) (cO : ∀ w g, Tab w → Blk 27 w g (cat2 (bc a) (bc b)) → Calls Tryd.prog 66 #[.int .u8 f, .int .u8 m, .slice (some ⟨g, 0, none⟩) 2 2] w fun e w' => e = .returned (.tuple #[.agg (tri c1 s1 x1 f1 c2 s2 x2 f2 c3 s3 x3 f3), .bool true]) ∧ Below w.heap.size w w') (cb1 : ∀ w, Calls Tryd.prog 67 #[PV c1 s1 x1 f1] w fun e w' => e = .returned (.bool b1) ∧ Below w.heap.size w w') (cb2 : ∀ w, Calls Tryd.prog 67 #[PV c2 s2 x2 f2] w fun e w' => e = .returned (.bool b2) ∧ Below w.heap.size w w') (cn1 : ∀ w, Calls Tryd.prog 68 #[PV c1 s1 x1 f1] w fun e w' => e = .returned (.bool false) ∧ Below w.heap.size w w') (cn2 : ∀ w, Calls Tryd.prog 68 #[PV c2 s2 x2 f2] w fun e w' => e = .returned (.bool false) ∧ Below w.heap.size w w') (ci1 : ∀ w, Calls Tryd.prog 70 #[PV c1 s1 x1 f1] w fun e w' => e = .returned (.bool false) ∧ Below w.heap.size w w') (ci2 : ∀ w, Calls Tryd.prog 70 #[PV c2 s2 x2 f2] w fun e w' => e = .returned (.bool true) ∧ Below w.heap.size w w') (cz1 : ∀ w, Calls Tryd.prog 71 #[PV c1 s1 x1 f1] w fun e w' => e = .returned (.bool false) ∧ Below w.heap.size w w') (cz2 : ∀ w, Calls Tryd.prog 71 #[PV c2 s2 x2 f2] w fun e w' => e = .returned (.bool false) ∧ Below w.heap.size w w') (ii : Nat) (cII : ∀ w, Calls Tryd.prog 18 #[.int .u8 f, .bool (!(b1 == b2))] w fun e w' => e = .returned (BV ii) ∧ Below w.heap.size w w') :
    Calls Tryd.prog 26 #[.int .u8 f, .int .u8 m, BV a, BV b] w fun e w' => e = .returned (.tuple #[BV ii, .int .u8 0, .int .i64 0]) ∧ Below w.heap.size w w' := by
  have H := Own.start w
  have HT := Lib.hid hT
  clear hT
  go_enter Tryd.func26, Tryd.ntmps26
  exact walk26
set_option maxHeartbeats 1600000 in
set_option maxRecDepth 100000 in
theorem mulMul_ZZ (f m a b : Nat) (c1 s1 f1 : Nat) (x1 : Int) (c2 s2 f2 : Nat) (x2 : Int) (c3 s3 f3 : Nat) (x3 : Int) (b1 b2 : Bool) (w : World) (hT : Tab w) (cO : ∀ w g, Tab w → Blk 27 w g (cat2 (bc a) (bc b)) → Calls Tryd.prog 66 #[.int .u8 f, .int .u8 m, .slice (some ⟨g, 0, none⟩) 2 2] w fun e w' => e = .returned (.tuple #[.agg (tri c1 s1 x1 f1 c2 s2 x2 f2 c3 s3 x3 f3), .bool true]) ∧ Below w.heap.size w w') (cb1 : ∀ w, Calls Tryd.prog 67 #[PV c1 s1 x1 f1] w fun e w' => e = .returned (.bool b1) ∧ Below w.heap.size w w') (cb2 : ∀ w, Calls Tryd.prog 67 #[PV c2 s2 x2 f2] w fun e w' => e = .returned (.bool b2) ∧ Below w.heap.size w w') (cn1 : ∀ w, Calls Tryd.prog 68 #[PV c1 s1 x1 f1] w fun e w' => e = .returned (.bool false) ∧ Below w.heap.size w w') (cn2 : ∀ w, Calls Tryd.prog 68 #[PV c2 s2 x2 f2] w fun e w' => e = .returned (.bool false) ∧ Below w.heap.size w w') (ci1 : ∀ w, Calls Tryd.prog 70 #[PV c1 s1 x1 f1] w fun e w' => e = .returned (.bool false) ∧ Below w.heap.size w w') (ci2 : ∀ w, Calls Tryd.prog 70 #[PV c2 s2 x2 f2] w fun e w' => e = .returned (.bool false) ∧ Below w.heap.size w w') (cz1 : ∀ w, Calls Tryd.prog 71 #[PV c1 s1 x1 f1] w fun e w' => e = .returned (.bool true) ∧ Below w.heap.size w w') (cz2 : ∀ w, Calls Tryd.prog 71 #[PV c2 s2 x2 f2] w fun e w' => e = .returned (.bool true) ∧ Below w.heap.size w w') (zz : Nat) (cZZ : ∀ w, Calls Tryd.prog 19 #[.int .u8 f, .bool (!(b1 == b2))] w fun e w' => e = .returned (BV zz) ∧ Below w.heap.size w w') :
    Calls Tryd.prog 26 #[.int .u8 f, .int .u8 m, BV a, BV b] w fun e w' => e = .returned (.tuple #[BV zz, .int .u8 0, .int .i64 0]) ∧ Below w.heap.size w w' := by
  have H := Own.start w
  have HT := Lib.hid hT
  clear hT
  go_enter Tryd.func26, Tryd.ntmps26
  exact walk26
end Go.Proofs.YtdcgcjmajacgiaaDoor

namespace Go.Proofs.YtdcgcjmajacgiaaDoor
open Go.RowKit
set_option maxHeartbeats 1600000 in
set_option maxRecDepth 100000 in
theorem mulMul_ZF (f m a b : Nat) (c1 s1 f1 : Nat) (x1 : Int) (c2 s2 f2 : Nat) (x2 : Int) (c3 s3 f3 : Nat) (x3 : Int) (b1 b2 : Bool) (w : World) (hT : Tab w) (cO : ∀ w g, Tab w → Blk 27 w g (cat2 (bc a) (bc b)) → Calls Tryd.prog 66 #[.int .u8 f, .int .u8 m, .slice (some ⟨g, 0, none⟩) 2 2] w fun e w' => e = .returned (.tuple #[.agg (tri c1 s1 x1 f1 c2 s2 x2 f2 c3 s3 x3 f3), .bool true]) ∧ Below w.heap.size w w') (cb1 : ∀ w, Calls Tryd.prog 67 #[PV c1 s1 x1 f1] w fun e w' => e = .returned (.bool b1) ∧ Below w.heap.size w w') (cb2 : ∀ w, Calls Tryd.prog 67 #[PV c2 s2 x2 f2] w fun e w' => e = .returned (.bool b2) ∧ Below w.heap.size w w') (cn1 : ∀ w, Calls Tryd.prog 68 #[PV c1 s1 x1 f1] w fun e w' => e = .returned (.bool false) ∧ Below w.heap.size w w') (cn2 : ∀ w, Calls Tryd.prog 68 #[PV c2 s2 x2 f2] w fun e w' => e = .returned (.bool false) ∧ Below w.heap.size w w') (ci1 : ∀ w, Calls Tryd.prog 70 #[PV c1 s1 x1 f1] w fun e w' => e = .returned (.bool false) ∧ Below w.heap.size w w') (ci2 : ∀ w, Calls Tryd.prog 70 #[PV c2 s2 x2 f2] w fun e w' => e = .returned (.bool false) ∧ Below w.heap.size w w') (cz1 : ∀ w, Calls Tryd.prog 71 #[PV c1 s1 x1 f1] w fun e w' => e = .returned (.bool true) ∧ Below w.heap.size w w') (cz2 : ∀ w, Calls Tryd.prog 71 #[PV c2 s2 x2 f2] w fun e w' => e = .returned (.bool false) ∧ Below w.heap.size w w') (zz : Nat) (cZZ : ∀ w, Calls Tryd.prog 19 #[.int .u8 f, .bool (!(b1 == b2))] w fun e w' => e = .returned (BV zz) ∧ Below w.heap.size w w') :
    Calls Tryd.prog 26 #[.int .u8 f, .int .u8 m, BV a, BV b] w fun e w' => e = .returned (.tuple #[BV zz, .int .u8 0, .int .i64 0]) ∧ Below w.heap.size w w' := by
  have H := Own.start w
  have HT := Lib.hid hT
  clear hT
  go_enter Tryd.func26, Tryd.ntmps26
  exact walk26
set_option maxHeartbeats 1600000 in
set_option maxRecDepth 100000 in
theorem mulMul_FZ (f m a b : Nat) (c1 s1 f1 : Nat) (x1 : Int) (c2 s2 f2 : Nat) (x2 : Int) (c3 s3 f3 : Nat) (x3 : Int) (b1 b2 : Bool) (w : World) (hT : Tab w) (cO : ∀ w g, Tab w → Blk 27 w g (cat2 (bc a) (bc b)) → Calls Tryd.prog 66 #[.int .u8 f, .int .u8 m, .slice (some ⟨g, 0, none⟩) 2 2] w fun e w' => e = .returned (.tuple #[.agg (tri c1 s1 x1 f1 c2 s2 x2 f2 c3 s3 x3 f3), .bool true]) ∧ Below w.heap.size w w') (cb1 : ∀ w, Calls Tryd.prog 67 #[PV c1 s1 x1 f1] w fun e w' => e = .returned (.bool b1) ∧ Below w.heap.size w w') (cb2 : ∀ w, Calls Tryd.prog 67 #[PV c2 s2 x2 f2] w fun e w' => e = .returned (.bool b2) ∧ Below w.heap.size w w') (cn1 : ∀ w, Calls Tryd.prog 68 #[PV c1 s1 x1 f1] w fun e w' => e = .returned (.bool false) ∧ Below w.heap.size w w') (cn2 : ∀ w, Calls Tryd.prog 68 #[PV c2 s2 x2 f2] w fun e w' => e = .returned (.bool false) ∧ Below w.heap.size w w') (ci1 : ∀ w, Calls Tryd.prog 70 #[PV c1 s1 x1 f1] w fun e w' => e = .returned (.bool false) ∧ Below w.heap.size w w') (ci2 : ∀ w, Calls Tryd.prog 70 #[PV c2 s2 x2 f2] w fun e w' => e = .returned (.bool false) ∧ Below w.heap.size w w') (cz1 : ∀ w, Calls Tryd.prog 71 #[PV c1 s1 x1 f1] w fun e w' => e = .returned (.bool false) ∧ Below w.heap.size w w') (cz2 : ∀ w, Calls Tryd.prog 71 #[PV c2 s2 x2 f2] w fun e w' => e = .returned (.bool true) ∧ Below w.heap.size w w') (zz : Nat) (cZZ : ∀ w, Calls Tryd.prog 19 #[.int .u8 f, .bool (!(b1 == b2))] w fun e w' => e = .returned (BV zz) ∧ Below w.heap.size w w') :
    Calls Tryd.prog 26 #[.int .u8 f, .int .u8 m, BV a, BV b] w fun e w' => e = .returned (.tuple #[BV zz, .int .u8 0, .int .i64 0]) ∧ Below w.heap.size w w' := by
  have H := Own.start w
  have HT := Lib.hid hT
  clear hT
  go_enter Tryd.func26, Tryd.ntmps26
  exact walk26
end Go.Proofs.YtdcgcjmajacgiaaDoor

namespace Go.Proofs.YtdcgcjmajacgiaaDoor
open Go.RowKit
set_option maxHeartbeats 1600000 in
set_option maxRecDepth 100000 in
theorem mulMul_FF (f m a b : Nat) (c1 s1 f1 : Nat) (x1 : Int) (c2 s2 f2 : Nat) (x2 : Int) (c3 s3 f3 : Nat) (x3 : Int) (b1 b2 : Bool) (w : World) (hT : Tab w) (cO : ∀ w g, Tab w → Blk 27 w g (cat2 (bc a) (bc b)) → Calls Tryd.prog 66 #[.int .u8 f, .int .u8 m, .slice (some ⟨g, 0, none⟩) 2 2] w fun e w' => e = .returned (.tuple #[.agg (tri c1 s1 x1 f1 c2 s2 x2 f2 c3 s3 x3 f3), .bool true]) ∧ Below w.heap.size w w') (cb1 : ∀ w, Calls Tryd.prog 67 #[PV c1 s1 x1 f1] w fun e w' => e = .returned (.bool b1) ∧ Below w.heap.size w w') (cb2 : ∀ w, Calls Tryd.prog 67 #[PV c2 s2 x2 f2] w fun e w' => e = .returned (.bool b2) ∧ Below w.heap.size w w') (cn1 : ∀ w, Calls Tryd.prog 68 #[PV c1 s1 x1 f1] w fun e w' => e = .returned (.bool false) ∧ Below w.heap.size w w') (cn2 : ∀ w, Calls Tryd.prog 68 #[PV c2 s2 x2 f2] w fun e w' => e = .returned (.bool false) ∧ Below w.heap.size w w') (ci1 : ∀ w, Calls Tryd.prog 70 #[PV c1 s1 x1 f1] w fun e w' => e = .returned (.bool false) ∧ Below w.heap.size w w') (ci2 : ∀ w, Calls Tryd.prog 70 #[PV c2 s2 x2 f2] w fun e w' => e = .returned (.bool false) ∧ Below w.heap.size w w') (cz1 : ∀ w, Calls Tryd.prog 71 #[PV c1 s1 x1 f1] w fun e w' => e = .returned (.bool false) ∧ Below w.heap.size w w') (cz2 : ∀ w, Calls Tryd.prog 71 #[PV c2 s2 x2 f2] w fun e w' => e = .returned (.bool false) ∧ Below w.heap.size w w') (hx1 : -40000 ≤ x1) (hx1b : x1 ≤ 40000) (hx2 : -40000 ≤ x2) (hx2b : x2 ≤ 40000) (s : Nat) (o : Bool) (r : Nat) (fl : Int) (er : Int) (cM : ∀ w, Calls Tryd.prog 62 #[W s1, W s2] w fun e w' => e = .returned (.tuple #[W s, .bool o]) ∧ Below w.heap.size w w') (cK : ∀ w, Tab w → Calls Tryd.prog 32 #[.int .u8 f, .int .u8 m, RV (!(b1 == b2)) s (x1 + x2) false] w fun e w' => e = .returned (.tuple #[BV r, .int .u8 fl, .int .i64 er]) ∧ Below w.heap.size w w') :
    Calls Tryd.prog 26 #[.int .u8 f, .int .u8 m, BV a, BV b] w fun e w' => e = .returned (.tuple #[BV r, .int .u8 fl, .int .i64 er]) ∧ Below w.heap.size w w' := by
  have H := Own.start w
  have HT := Lib.hid hT
  clear hT
  go_enter Tryd.func26, Tryd.ntmps26
  exact walk26
end Go.Proofs.YtdcgcjmajacgiaaDoor

namespace Go.Proofs.YtdcgcjmajacgiaaDoor
open Go.RowKit
/-- What mul.open answers. -/
theorem mulOpen_any (f m a b : Nat) (hf : f < 256) (hm : m < 256) (ha : a < 2 ^ (64 * 2)) (hb : b < 2 ^ (64 * 2)) :
    ∃ c1 s1 f1 x1 c2 s2 f2 x2, (binOk f m a b = true → c1 = clsN f a ∧ s1 = sigN f a ∧ x1 = xpN f a ∧ f1 = frN f a ∧ c2 = clsN f b ∧ s2 = sigN f b ∧ x2 = xpN f b ∧ f2 = frN f b) ∧
    ∀ (w : World) (g : Nat), Tab w → Blk 27 w g (cat2 (bc a) (bc b)) → Calls Tryd.prog 66 #[.int .u8 f, .int .u8 m, .slice (some ⟨g, 0, none⟩) 2 2] w fun e w' => e = .returned (.tuple #[.agg (tri c1 s1 x1 f1 c2 s2 x2 f2 0 0 0 0), .bool (binOk f m a b)]) ∧ Below w.heap.size w w' := by
  have cM := fun w => shapeCheckMode_any m w hm
  have cF := fun w => shapeCheck_any f w hf
  by_cases hm5 : m < 5
  case neg =>
    have e : binOk f m a b = false := by unfold binOk; rw [decide_eq_false hm5]; simp
    rw [decide_eq_false hm5] at cM
    rw [e]
    exact ⟨0, 0, 0, 0, 0, 0, 0, 0, (fun h => by cases h), fun w g _ hB => mul_open2_mode f m a b w g hB cM⟩
  rw [decide_eq_true hm5] at cM
  by_cases hf4 : f < 4
  case neg =>
    have e : binOk f m a b = false := by unfold binOk; rw [decide_eq_false hf4]; simp
    rw [decide_eq_false hf4] at cF
    rw [e]
    exact ⟨0, 0, 0, 0, 0, 0, 0, 0, (fun h => by cases h), fun w g _ hB => mul_open2_form f m a b w g hB cM cF⟩
  rw [decide_eq_true hf4] at cF
  cases ha' : fitsB f a
  · have e : binOk f m a b = false := by unfold binOk; rw [ha']; simp
    rw [e]
    exact ⟨0, 0, 0, 0, 0, 0, 0, 0, (fun h => by cases h), fun w g hT hB => mul_open2_no0 f m a b w hT g hB cM cF (fun w _ => kindUnpack_not f a w ha ha')⟩
  cases hb' : fitsB f b
  · have e : binOk f m a b = false := by unfold binOk; rw [hb']; simp
    rw [e]
    exact ⟨_, _, _, _, 0, 0, 0, 0, (fun h => by cases h), fun w g hT hB => mul_open2_no1 f m a b w hT g hB cM cF (fun w hT => kindUnpack_yes f a w ha' hT) (fun w _ => kindUnpack_not f b w hb hb')⟩
  have e : binOk f m a b = true := by unfold binOk; rw [ha', hb', decide_eq_true hm5, decide_eq_true hf4]; rfl
  rw [e]
  exact ⟨_, _, _, _, _, _, _, _, fun _ => ⟨rfl, rfl, rfl, rfl, rfl, rfl, rfl, rfl⟩, fun w g hT hB => mul_open2_ok f m a b w hT g hB cM cF (fun w hT => kindUnpack_yes f a w ha' hT) (fun w hT => kindUnpack_yes f b w hb' hT)⟩
theorem mulMul_any (f m a b : Nat) (w : World) (hf : f < 256) (hm : m < 256) (ha : a < 2 ^ (64 * 2)) (hb : b < 2 ^ (64 * 2)) (hT : Tab w) :
    Calls Tryd.prog 26 #[.int .u8 f, .int .u8 m, BV a, BV b] w fun e w' => e = .returned (.tuple #[BV (mulN f m a b).1, .int .u8 ((mulN f m a b).2.1 : Nat), .int .i64 (mulN f m a b).2.2]) ∧ Below w.heap.size w w' := by
  obtain ⟨c1, s1, f1, x1, c2, s2, f2, x2, hv, cO⟩ := mulOpen_any f m a b hf hm ha hb
  cases hok : binOk f m a b
  · have hN : mulN f m a b = (0, 0, 2) := by unfold mulN; rw [hok]; rfl
    rw [hok] at cO
    rw [hN]
    exact mulMul_no f m a b _ _ _ _ _ _ _ _ _ _ _ _ w hT cO
  obtain ⟨rfl, rfl, rfl, rfl, rfl, rfl, rfl, rfl⟩ := hv hok
  have hN : mulN f m a b = ((mulR f m a b).1, (mulR f m a b).2, 0) := by unfold mulN; rw [hok]; rfl
  rw [hN]
  rw [hok] at cO
  obtain ⟨⟨hf4', hm5'⟩, hfa, hfb⟩ : (decide (f < 4) = true ∧ decide (m < 5) = true) ∧ fitsB f a = true ∧ fitsB f b = true := by unfold binOk at hok; simp only [Bool.and_eq_true] at hok; exact hok
  have hf4 := of_decide_eq_true hf4'
  have hm5 := of_decide_eq_true hm5'
  have cb1 := fun w => mul_below (clsN f a) (sigN f a) (frN f a) (xpN f a) w
  have cb2 := fun w => mul_below (clsN f b) (sigN f b) (frN f b) (xpN f b) w
  have cn1 := fun w => mul_nan (clsN f a) (sigN f a) (frN f a) (xpN f a) w
  have cn2 := fun w => mul_nan (clsN f b) (sigN f b) (frN f b) (xpN f b) w
  have ci1 := fun w => mul_inf (clsN f a) (sigN f a) (frN f a) (xpN f a) w
  have ci2 := fun w => mul_inf (clsN f b) (sigN f b) (frN f b) (xpN f b) w
  have cz1 := fun w => mul_nought (clsN f a) (sigN f a) (frN f a) (xpN f a) w
  have cz2 := fun w => mul_nought (clsN f b) (sigN f b) (frN f b) (xpN f b) w
  have cN := fun w => shapeNaN_any f w hf
  have cC := fun w g hB => mul_canon f (clsN f a) (sigN f a) (frN f a) (xpN f a) (clsN f b) (sigN f b) (frN f b) (xpN f b) w g hB cN
  have cI := fun w => shapeInf_any f (!(belowN4 (clsN f a) == belowN4 (clsN f b))) w hf
  have cZ := fun w => shapeZero_any f (!(belowN4 (clsN f a) == belowN4 (clsN f b))) w hf
  have hne : (belowN4 (clsN f a) != belowN4 (clsN f b)) = !(belowN4 (clsN f a) == belowN4 (clsN f b)) := rfl
  unfold mulR canonR
  rw [hne]
  cases h1 : nanB (clsN f a)
  case true =>
    rw [h1] at cn1
    rw [canon_flag] at cC
    exact mulMul_N1 f m a b _ _ _ _ _ _ _ _ 0 0 0 0 _ _ w hT cO cb1 cb2 cn1 _ _ cC
  rw [h1] at cn1
  cases h2 : nanB (clsN f b)
  case true =>
    rw [h2] at cn2
    rw [canon_flag] at cC
    exact mulMul_N2 f m a b _ _ _ _ _ _ _ _ 0 0 0 0 _ _ w hT cO cb1 cb2 cn1 cn2 _ _ cC
  rw [h2] at cn2
  have k1 : ∀ c, infB c = true → zerB c = false := by intro c h; rcases infB_cases c h with rfl | rfl <;> rfl
  cases i1 : infB (clsN f a) <;> cases z1 : zerB (clsN f a) <;> cases i2 : infB (clsN f b) <;> cases z2 : zerB (clsN f b) <;> rw [i1] at ci1 <;> rw [z1] at cz1 <;> rw [i2] at ci2 <;> rw [z2] at cz2
  · (
    obtain ⟨g1, g2⟩ := xpN_bound f a hfa
    obtain ⟨g3, g4⟩ := xpN_bound f b hfb
    have q1 := sigN_113 f a hfa
    have q2 := sigN_113 f b hfb
    have t1 : sigN f a < top6 := lt_pwr top6 113 (64 * 6) _ top6.eq_1 (by decide) q1
    have t2 : sigN f b < top6 := lt_pwr top6 113 (64 * 6) _ top6.eq_1 (by decide) q2
    have t3 : sigN f a * sigN f b < top6 := by
      have : sigN f a * sigN f b < 2 ^ 113 * 2 ^ 113 := Nat.mul_lt_mul'' q1 q2
      rw [← Nat.pow_add] at this
      exact lt_pwr top6 (113 + 113) (64 * 6) _ top6.eq_1 (by decide) this
    have s1 : sigN f a ≠ 0 := by
      intro h0
      have := (sig_zero f a hfa (by intro h; rw [show nanB (clsN f a) = true from decide_eq_true h] at h1; cases h1) (by intro h; rw [show infB (clsN f a) = true by unfold infB; rcases h with h | h <;> rw [h] <;> rfl] at i1; cases i1)).1 h0
      rw [show zerB (clsN f a) = true by unfold zerB; rcases this with h | h <;> rw [h] <;> rfl] at z1; cases z1
    have s2 : sigN f b ≠ 0 := by
      intro h0
      have := (sig_zero f b hfb (by intro h; rw [show nanB (clsN f b) = true from decide_eq_true h] at h2; cases h2) (by intro h; rw [show infB (clsN f b) = true by unfold infB; rcases h with h | h <;> rw [h] <;> rfl] at i2; cases i2)).1 h0
      rw [show zerB (clsN f b) = true by unfold zerB; rcases this with h | h <;> rw [h] <;> rfl] at z2; cases z2
    have s0 : sigN f a * sigN f b ≠ 0 := Nat.mul_ne_zero s1 s2
    have cK := fun w hT => roundPack_any f m (sigN f a * sigN f b) (xpN f a + xpN f b) (!(belowN4 (clsN f a) == belowN4 (clsN f b))) false w hT hf hm t3
    have hP : packN f m (!(belowN4 (clsN f a) == belowN4 (clsN f b))) (sigN f a * sigN f b) (xpN f a + xpN f b) false = ((packB f m (!(belowN4 (clsN f a) == belowN4 (clsN f b))) (sigN f a * sigN f b) (xpN f a + xpN f b) false).1, (packB f m (!(belowN4 (clsN f a) == belowN4 (clsN f b))) (sigN f a * sigN f b) (xpN f a + xpN f b) false).2, 0) := by
      unfold packN packOk
      rw [decide_eq_true hf4, decide_eq_true hm5, decide_eq_true (show -1048576 ≤ xpN f a + xpN f b by omega), decide_eq_true (show xpN f a + xpN f b ≤ 1048576 by omega), if_neg s0]; rfl
    rw [hP] at cK
    exact mulMul_FF f m a b _ _ _ _ _ _ _ _ 0 0 0 0 _ _ w hT cO cb1 cb2 cn1 cn2 ci1 ci2 cz1 cz2 g1 g2 g3 g4 _ _ _ _ _ (fun w => wideMul_any _ _ w t1 t2) cK)
  · exact mulMul_FZ f m a b _ _ _ _ _ _ _ _ 0 0 0 0 _ _ w hT cO cb1 cb2 cn1 cn2 ci1 ci2 cz1 cz2 _ cZ
  · exact mulMul_FI f m a b _ _ _ _ _ _ _ _ 0 0 0 0 _ _ w hT cO cb1 cb2 cn1 cn2 ci1 ci2 cz1 cz2 _ cI
  · exact absurd (k1 _ i2) (by rw [z2]; decide)
  · exact mulMul_ZF f m a b _ _ _ _ _ _ _ _ 0 0 0 0 _ _ w hT cO cb1 cb2 cn1 cn2 ci1 ci2 cz1 cz2 _ cZ
  · exact mulMul_ZZ f m a b _ _ _ _ _ _ _ _ 0 0 0 0 _ _ w hT cO cb1 cb2 cn1 cn2 ci1 ci2 cz1 cz2 _ cZ
  · exact mulMul_ZI f m a b _ _ _ _ _ _ _ _ 0 0 0 0 _ _ w hT cO cb1 cb2 cn1 cn2 ci1 ci2 cz1 cz2 _ cN
  · exact absurd (k1 _ i2) (by rw [z2]; decide)
  · exact mulMul_IF f m a b _ _ _ _ _ _ _ _ 0 0 0 0 _ _ w hT cO cb1 cb2 cn1 cn2 ci1 ci2 cz1 cz2 _ cI
  · exact mulMul_IZ f m a b _ _ _ _ _ _ _ _ 0 0 0 0 _ _ w hT cO cb1 cb2 cn1 cn2 ci1 ci2 cz1 cz2 _ cN
  · exact mulMul_II f m a b _ _ _ _ _ _ _ _ 0 0 0 0 _ _ w hT cO cb1 cb2 cn1 cn2 ci1 ci2 cz1 cz2 _ cI
  · exact absurd (k1 _ i2) (by rw [z2]; decide)
  · exact absurd (k1 _ i1) (by rw [z1]; decide)
  · exact absurd (k1 _ i1) (by rw [z1]; decide)
  · exact absurd (k1 _ i1) (by rw [z1]; decide)
  · exact absurd (k1 _ i1) (by rw [z1]; decide)
end Go.Proofs.YtdcgcjmajacgiaaDoor

namespace Go.Proofs.YtdcgcjmajacgiaaDoor
open Go.RowKit
theorem run_eq_bits (x y : Nat) (w : World) : (Op.equalIn 10000 27 (.agg #[.int .u64 (limb x 1), .int .u64 (limb x 0)]) (.agg #[.int .u64 (limb y 1), .int .u64 (limb y 0)])).run Tryd.prog w = .ok (limb x 1 == limb y 1 && limb x 0 == limb y 0) w := by
  go_simp
  by_cases h1 : limb x 1 = limb y 1 <;> by_cases h0 : limb x 0 = limb y 0 <;> simp [h1, h0]
theorem bits_diff (x y : Nat) (hx : x < 2 ^ (64 * 2)) (hy : y < 2 ^ (64 * 2)) (h : x ≠ y) : (limb x 1 == limb y 1 && limb x 0 == limb y 0) = false := by
  rw [Bool.eq_false_iff]
  intro hb
  simp only [Bool.and_eq_true, beq_iff_eq] at hb
  rw [limb1, limb1, limb0, limb0] at hb
  rw [show 2 ^ (64 * 2) = 340282366920938463463374607431768211456 from rfl] at hx hy
  omega
end Go.Proofs.YtdcgcjmajacgiaaDoor

namespace Go.Proofs.YtdcgcjmajacgiaaDoor
open Go.RowKit
set_option maxHeartbeats 1600000 in
set_option maxRecDepth 100000 in
theorem sqrtAlive_w (w : World) (hT : Tab w) (cA : ∀ w, Tab w → Calls Tryd.prog 28 #[.int .u8 2, .int .u8 0, .agg #[.int .u64 0, .int .u64 17408]] w fun e w' => e = .returned (.tuple #[.agg #[.int .u64 0, .int .u64 16384], .int .u8 0, .int .i64 0]) ∧ Below w.heap.size w w') :
    Calls Tryd.prog 27 #[] w fun e w' => e = .returned (.bool true) ∧ Below w.heap.size w w' := by
  have H := Own.start w
  have HT := Lib.hid hT
  clear hT
  go_enter Tryd.func27, Tryd.ntmps27
  go_wp2_with (first
    | ((with_reducible show wpList _ _ _ (⟨_, .box _ _, _, _, _, _⟩ :: _) _ _); refine H.box rfl rfl (cells_agg _) ?_; (intro g w H; simp only [Act.put, List.setIfInBounds_toArray, List.set_cons_zero, List.set_cons_succ]))
    | ((with_reducible show wpList _ _ _ (⟨_, .alloc 27, _, _, _, _⟩ :: _) _ _); refine H.mk0 rfl rB rfl ?_; (intro g w H; simp only [Act.put, List.setIfInBounds_toArray, List.set_cons_zero, List.set_cons_succ]))
    | ((with_reducible show wpList _ _ _ (⟨_, .load 27 _, _, _, _, _⟩ :: _) _ _); refine H.ld rfl rB rfl rfl (by repeat (first | with_reducible exact List.mem_cons_self | apply List.mem_cons_of_mem)) (by first | with_reducible exact ext_2 _ _) (by rfl) ?_; simp only [Act.put, List.setIfInBounds_toArray, List.set_cons_zero, List.set_cons_succ])
    | ((with_reducible show wpList _ _ _ (⟨_, .store 27 _ _, _, _, _, _⟩ :: _) _ _); refine H.st rfl rB rfl rfl (cells_agg _) (by repeat (first | with_reducible exact Upd.head _ | apply Upd.tail)) (set_bits _ _ _ _) (by rfl) (by exact one_of rfl) (by first | exact ble_le rfl | (change _ + 1 ≤ 12; omega) | (change _ + 1 ≤ 6; omega)) ?_; (intro w H; simp only [Act.put]))
    | (go_at_call 28; ((with_reducible refine (cA _ (HT.out.below H.below)).mono ?_); rintro e w ⟨rfl, hb⟩; replace H := H.call hb; clear hb))
    )
  all_goals
    go_ret
    exact ⟨rfl, H.below⟩
theorem sqrt_two : sqrtN 2 0 17408 = (16384, 0, 0) := by
  have hc : clsN 2 17408 = 6 := by decide +kernel
  have hs : sigN 2 17408 = 1024 := by decide +kernel
  have hx : xpN 2 17408 = -8 := by decide +kernel
  have hsh : sqrSh 2 17408 = 18 := by unfold sqrSh sqrSh0; rw [hs, hx]; decide +kernel
  have hi : isq (1024 * 2 ^ 18) = 16384 := isq_unique _ _ (by decide) (by decide)
  have hok : unOk 2 0 17408 = true := by decide +kernel
  unfold sqrtN sqrtR
  rw [hok, hc, hs, hx, hsh, hi]
  decide +kernel
theorem sqrtAlive_any (w : World) (hT : Tab w) : Calls Tryd.prog 27 #[] w fun e w' => e = .returned (.bool true) ∧ Below w.heap.size w w' := by
  refine sqrtAlive_w w hT fun w hT => ?_
  have := sqrtSqrt_any 2 0 17408 w (by decide) (by decide) (by decide) hT
  rw [sqrt_two] at this
  exact this
set_option maxRecDepth 100000 in
theorem walk6 {P : Prop} (h : P := by
  go_wp2_with (first
    | ((with_reducible show wpList _ _ _ (⟨_, .box _ _, _, _, _, _⟩ :: _) _ _); refine H.box rfl rfl (cells_agg _) ?_; (intro g w H; simp only [Act.put, List.setIfInBounds_toArray, List.set_cons_zero, List.set_cons_succ]))
    | ((with_reducible show wpList _ _ _ (⟨_, .alloc 27, _, _, _, _⟩ :: _) _ _); refine H.mk0 rfl rB rfl ?_; (intro g w H; simp only [Act.put, List.setIfInBounds_toArray, List.set_cons_zero, List.set_cons_succ]))
    | ((with_reducible show wpList _ _ _ (⟨_, .load 27 _, _, _, _, _⟩ :: _) _ _); refine H.ld rfl rB rfl rfl (by repeat (first | with_reducible exact List.mem_cons_self | apply List.mem_cons_of_mem)) (by first | with_reducible exact ext_2 _ _) (by rfl) ?_; simp only [Act.put, List.setIfInBounds_toArray, List.set_cons_zero, List.set_cons_succ])
    | ((with_reducible show wpList _ _ _ (⟨_, .store 27 _ _, _, _, _, _⟩ :: _) _ _); refine H.st rfl rB rfl rfl (cells_agg _) (by repeat (first | with_reducible exact Upd.head _ | apply Upd.tail)) (set_bits _ _ _ _) (by rfl) (by exact one_of rfl) (by first | exact ble_le rfl | (change _ + 1 ≤ 12; omega) | (change _ + 1 ≤ 6; omega)) ?_; (intro w H; simp only [Act.put]))
    | ((with_reducible show Code.wp _ (.region 2 _ true) _ _ _); refine H.heldSub rfl (List.Sublist.refl _) ?_; intro H; refine H.takeRun (by repeat (first | with_reducible exact List.Sublist.refl _ | with_reducible apply List.Sublist.cons_cons | with_reducible apply List.Sublist.cons)) 0 rfl (by kernel_rfl) (by kernel_rfl) (by kernel_rfl) (fun _ _ _ _ h => h) rfl (by intro w; go_simp; (try with_reducible rfl)) ?_; (try simp only [Act.put, List.setIfInBounds_toArray, List.set_cons_zero, List.set_cons_succ]); (try simp only [List.getElem_toArray, List.getElem_cons_zero, List.getElem_cons_succ]); refine H.takeRun (by repeat (first | with_reducible exact List.Sublist.refl _ | with_reducible apply List.Sublist.cons_cons | with_reducible apply List.Sublist.cons)) 1 rfl (by kernel_rfl) (by kernel_rfl) (by kernel_rfl) (fun _ _ _ _ h => h) rfl (by intro w; go_simp; (try with_reducible rfl)) ?_; (try simp only [Act.put, List.setIfInBounds_toArray, List.set_cons_zero, List.set_cons_succ]); (try simp only [List.getElem_toArray, List.getElem_cons_zero, List.getElem_cons_succ]); refine H.takeRun (by repeat (first | with_reducible exact List.Sublist.refl _ | with_reducible apply List.Sublist.cons_cons | with_reducible apply List.Sublist.cons)) 2 rfl (by kernel_rfl) (by kernel_rfl) (by kernel_rfl) (fun _ _ _ _ h => h) rfl (by intro w; go_simp; (try with_reducible rfl)) ?_; (try simp only [Act.put, List.setIfInBounds_toArray, List.set_cons_zero, List.set_cons_succ]); (try simp only [List.getElem_toArray, List.getElem_cons_zero, List.getElem_cons_succ]); (first | refine H.takeRun (by repeat (first | with_reducible exact List.Sublist.refl _ | with_reducible apply List.Sublist.cons_cons | with_reducible apply List.Sublist.cons)) 3 rfl (by kernel_rfl) (by kernel_rfl) (by kernel_rfl) (fun _ _ _ _ h => h) rfl (by intro w; go_simp; (try with_reducible rfl)) ?_ | refine H.takeOff (by repeat (first | with_reducible exact List.Sublist.refl _ | with_reducible apply List.Sublist.cons_cons | with_reducible apply List.Sublist.cons)) 3 rfl (by kernel_rfl) (by kernel_rfl) (by kernel_rfl) (fun _ _ _ _ h => h) rfl ?_); (try simp only [Act.put, List.setIfInBounds_toArray, List.set_cons_zero, List.set_cons_succ]); (try simp only [List.getElem_toArray, List.getElem_cons_zero, List.getElem_cons_succ]); (first | refine H.takeRun (by repeat (first | with_reducible exact List.Sublist.refl _ | with_reducible apply List.Sublist.cons_cons | with_reducible apply List.Sublist.cons)) 4 rfl (by kernel_rfl) (by kernel_rfl) (by kernel_rfl) (fun _ _ _ _ h => h) rfl (by intro w; go_simp; (try rw [hfl]); (try with_reducible rfl)) ?_ | refine H.takeOff (by repeat (first | with_reducible exact List.Sublist.refl _ | with_reducible apply List.Sublist.cons_cons | with_reducible apply List.Sublist.cons)) 4 rfl (by kernel_rfl) (by kernel_rfl) (by kernel_rfl) (fun _ _ _ _ h => h) rfl ?_); (try simp only [Act.put, List.setIfInBounds_toArray, List.set_cons_zero, List.set_cons_succ]); (try simp only [List.getElem_toArray, List.getElem_cons_zero, List.getElem_cons_succ]); refine H.takeRun (by repeat (first | with_reducible exact List.Sublist.refl _ | with_reducible apply List.Sublist.cons_cons | with_reducible apply List.Sublist.cons)) 5 rfl (by kernel_rfl) (by kernel_rfl) (by kernel_rfl) (fun _ _ _ _ h => h) rfl (by intro w; go_simp; (try with_reducible rfl)) ?_; (try simp only [Act.put, List.setIfInBounds_toArray, List.set_cons_zero, List.set_cons_succ]); (try simp only [List.getElem_toArray, List.getElem_cons_zero, List.getElem_cons_succ]); refine H.takeRun (by repeat (first | with_reducible exact List.Sublist.refl _ | with_reducible apply List.Sublist.cons_cons | with_reducible apply List.Sublist.cons)) 6 rfl (by kernel_rfl) (by kernel_rfl) (by kernel_rfl) (fun _ _ _ _ h => h) rfl (by intro w; go_simp; (try with_reducible rfl)) ?_; (try simp only [Act.put, List.setIfInBounds_toArray, List.set_cons_zero, List.set_cons_succ]); (try simp only [List.getElem_toArray, List.getElem_cons_zero, List.getElem_cons_succ]); (first | refine H.tk (by repeat (first | with_reducible exact List.Sublist.refl _ | with_reducible apply List.Sublist.cons_cons | with_reducible apply List.Sublist.cons)) 7 rfl (by kernel_rfl) (by kernel_rfl) (by kernel_rfl) (fun _ _ _ _ h => h) rfl rB rfl rfl (by repeat (first | with_reducible exact List.mem_cons_self | apply List.mem_cons_of_mem)) (by first | with_reducible exact ext_2 _ _) (by rfl) ?_ | refine H.takeOff (by repeat (first | with_reducible exact List.Sublist.refl _ | with_reducible apply List.Sublist.cons_cons | with_reducible apply List.Sublist.cons)) 7 rfl (by kernel_rfl) (by kernel_rfl) (by kernel_rfl) (fun _ _ _ _ h => h) rfl ?_); (try simp only [Act.put, List.setIfInBounds_toArray, List.set_cons_zero, List.set_cons_succ]); (try simp only [List.getElem_toArray, List.getElem_cons_zero, List.getElem_cons_succ]); (first | refine H.takeRun (by repeat (first | with_reducible exact List.Sublist.refl _ | with_reducible apply List.Sublist.cons_cons | with_reducible apply List.Sublist.cons)) 8 rfl (by kernel_rfl) (by kernel_rfl) (by kernel_rfl) (fun _ _ _ _ h => h) rfl (by intro w; go_simp; (try with_reducible rfl)) ?_ | refine H.takeOff (by repeat (first | with_reducible exact List.Sublist.refl _ | with_reducible apply List.Sublist.cons_cons | with_reducible apply List.Sublist.cons)) 8 rfl (by kernel_rfl) (by kernel_rfl) (by kernel_rfl) (fun _ _ _ _ h => h) rfl ?_); (try simp only [Act.put, List.setIfInBounds_toArray, List.set_cons_zero, List.set_cons_succ]); (try simp only [List.getElem_toArray, List.getElem_cons_zero, List.getElem_cons_succ]); refine H.takeOff (by repeat (first | with_reducible exact List.Sublist.refl _ | with_reducible apply List.Sublist.cons_cons | with_reducible apply List.Sublist.cons)) 9 rfl (by kernel_rfl) (by kernel_rfl) (by kernel_rfl) (fun _ _ _ _ h => h) rfl ?_; (try simp only [Act.put, List.setIfInBounds_toArray, List.set_cons_zero, List.set_cons_succ]); (try simp only [List.getElem_toArray, List.getElem_cons_zero, List.getElem_cons_succ]); (first | refine H.takeRun (by repeat (first | with_reducible exact List.Sublist.refl _ | with_reducible apply List.Sublist.cons_cons | with_reducible apply List.Sublist.cons)) 10 rfl (by kernel_rfl) (by kernel_rfl) (by kernel_rfl) (fun _ _ _ _ h => h) rfl (by intro w; go_simp; (try with_reducible rfl)) ?_ | refine H.takeOff (by repeat (first | with_reducible exact List.Sublist.refl _ | with_reducible apply List.Sublist.cons_cons | with_reducible apply List.Sublist.cons)) 10 rfl (by kernel_rfl) (by kernel_rfl) (by kernel_rfl) (fun _ _ _ _ h => h) rfl ?_); (try simp only [Act.put, List.setIfInBounds_toArray, List.set_cons_zero, List.set_cons_succ]); (try simp only [List.getElem_toArray, List.getElem_cons_zero, List.getElem_cons_succ]); refine H.takeRun (by repeat (first | with_reducible exact List.Sublist.refl _ | with_reducible apply List.Sublist.cons_cons | with_reducible apply List.Sublist.cons)) 11 rfl (by kernel_rfl) (by kernel_rfl) (by kernel_rfl) (fun _ _ _ _ h => h) rfl (by intro w; go_simp; (try with_reducible rfl)) ?_; (try simp only [Act.put, List.setIfInBounds_toArray, List.set_cons_zero, List.set_cons_succ]); (try simp only [List.getElem_toArray, List.getElem_cons_zero, List.getElem_cons_succ]); refine wpAnyH_done (by kernel_rfl) ?_ _)
    | ((with_reducible show Code.wp _ (.region 2 _ true) _ _ _); refine H.heldSub rfl (List.Sublist.refl _) ?_; intro H; refine H.takeRun (by repeat (first | with_reducible exact List.Sublist.refl _ | with_reducible apply List.Sublist.cons_cons | with_reducible apply List.Sublist.cons)) 0 rfl (by kernel_rfl) (by kernel_rfl) (by kernel_rfl) (fun _ _ _ _ h => h) rfl (by intro w; go_simp; (try with_reducible rfl)) ?_; (try simp only [Act.put, List.setIfInBounds_toArray, List.set_cons_zero, List.set_cons_succ]); (try simp only [List.getElem_toArray, List.getElem_cons_zero, List.getElem_cons_succ]); refine H.takeRun (by repeat (first | with_reducible exact List.Sublist.refl _ | with_reducible apply List.Sublist.cons_cons | with_reducible apply List.Sublist.cons)) 1 rfl (by kernel_rfl) (by kernel_rfl) (by kernel_rfl) (fun _ _ _ _ h => h) rfl (by intro w; go_simp; (try with_reducible rfl)) ?_; (try simp only [Act.put, List.setIfInBounds_toArray, List.set_cons_zero, List.set_cons_succ]); (try simp only [List.getElem_toArray, List.getElem_cons_zero, List.getElem_cons_succ]); refine H.takeRun (by repeat (first | with_reducible exact List.Sublist.refl _ | with_reducible apply List.Sublist.cons_cons | with_reducible apply List.Sublist.cons)) 2 rfl (by kernel_rfl) (by kernel_rfl) (by kernel_rfl) (fun _ _ _ _ h => h) rfl (by intro w; go_simp; (try with_reducible rfl)) ?_; (try simp only [Act.put, List.setIfInBounds_toArray, List.set_cons_zero, List.set_cons_succ]); (try simp only [List.getElem_toArray, List.getElem_cons_zero, List.getElem_cons_succ]); (first | refine H.takeRun (by repeat (first | with_reducible exact List.Sublist.refl _ | with_reducible apply List.Sublist.cons_cons | with_reducible apply List.Sublist.cons)) 3 rfl (by kernel_rfl) (by kernel_rfl) (by kernel_rfl) (fun _ _ _ _ h => h) rfl (by intro w; go_simp; (try with_reducible rfl)) ?_ | refine H.takeOff (by repeat (first | with_reducible exact List.Sublist.refl _ | with_reducible apply List.Sublist.cons_cons | with_reducible apply List.Sublist.cons)) 3 rfl (by kernel_rfl) (by kernel_rfl) (by kernel_rfl) (fun _ _ _ _ h => h) rfl ?_); (try simp only [Act.put, List.setIfInBounds_toArray, List.set_cons_zero, List.set_cons_succ]); (try simp only [List.getElem_toArray, List.getElem_cons_zero, List.getElem_cons_succ]); (first | refine H.takeRun (by repeat (first | with_reducible exact List.Sublist.refl _ | with_reducible apply List.Sublist.cons_cons | with_reducible apply List.Sublist.cons)) 4 rfl (by kernel_rfl) (by kernel_rfl) (by kernel_rfl) (fun _ _ _ _ h => h) rfl (by intro w; go_simp; (try with_reducible rfl)) ?_ | refine H.takeOff (by repeat (first | with_reducible exact List.Sublist.refl _ | with_reducible apply List.Sublist.cons_cons | with_reducible apply List.Sublist.cons)) 4 rfl (by kernel_rfl) (by kernel_rfl) (by kernel_rfl) (fun _ _ _ _ h => h) rfl ?_); (try simp only [Act.put, List.setIfInBounds_toArray, List.set_cons_zero, List.set_cons_succ]); (try simp only [List.getElem_toArray, List.getElem_cons_zero, List.getElem_cons_succ]); refine H.takeRun (by repeat (first | with_reducible exact List.Sublist.refl _ | with_reducible apply List.Sublist.cons_cons | with_reducible apply List.Sublist.cons)) 5 rfl (by kernel_rfl) (by kernel_rfl) (by kernel_rfl) (fun _ _ _ _ h => h) rfl (by intro w; go_simp; (try with_reducible rfl)) ?_; (try simp only [Act.put, List.setIfInBounds_toArray, List.set_cons_zero, List.set_cons_succ]); (try simp only [List.getElem_toArray, List.getElem_cons_zero, List.getElem_cons_succ]); refine H.takeRun (by repeat (first | with_reducible exact List.Sublist.refl _ | with_reducible apply List.Sublist.cons_cons | with_reducible apply List.Sublist.cons)) 6 rfl (by kernel_rfl) (by kernel_rfl) (by kernel_rfl) (fun _ _ _ _ h => h) rfl (by intro w; go_simp; (try with_reducible rfl)) ?_; (try simp only [Act.put, List.setIfInBounds_toArray, List.set_cons_zero, List.set_cons_succ]); (try simp only [List.getElem_toArray, List.getElem_cons_zero, List.getElem_cons_succ]); (first | refine H.tk (by repeat (first | with_reducible exact List.Sublist.refl _ | with_reducible apply List.Sublist.cons_cons | with_reducible apply List.Sublist.cons)) 7 rfl (by kernel_rfl) (by kernel_rfl) (by kernel_rfl) (fun _ _ _ _ h => h) rfl rB rfl rfl (by repeat (first | with_reducible exact List.mem_cons_self | apply List.mem_cons_of_mem)) (by first | with_reducible exact ext_2 _ _) (by rfl) ?_ | refine H.takeOff (by repeat (first | with_reducible exact List.Sublist.refl _ | with_reducible apply List.Sublist.cons_cons | with_reducible apply List.Sublist.cons)) 7 rfl (by kernel_rfl) (by kernel_rfl) (by kernel_rfl) (fun _ _ _ _ h => h) rfl ?_); (try simp only [Act.put, List.setIfInBounds_toArray, List.set_cons_zero, List.set_cons_succ]); (try simp only [List.getElem_toArray, List.getElem_cons_zero, List.getElem_cons_succ]); (first | refine H.takeRun (by repeat (first | with_reducible exact List.Sublist.refl _ | with_reducible apply List.Sublist.cons_cons | with_reducible apply List.Sublist.cons)) 8 rfl (by kernel_rfl) (by kernel_rfl) (by kernel_rfl) (fun _ _ _ _ h => h) rfl (by intro w; go_simp; (try with_reducible rfl)) ?_ | refine H.takeOff (by repeat (first | with_reducible exact List.Sublist.refl _ | with_reducible apply List.Sublist.cons_cons | with_reducible apply List.Sublist.cons)) 8 rfl (by kernel_rfl) (by kernel_rfl) (by kernel_rfl) (fun _ _ _ _ h => h) rfl ?_); (try simp only [Act.put, List.setIfInBounds_toArray, List.set_cons_zero, List.set_cons_succ]); (try simp only [List.getElem_toArray, List.getElem_cons_zero, List.getElem_cons_succ]); refine held_one (i := 9) (by kernel_rfl) rfl rfl ?_; unfold Oper.wp; go_simp; (go_at_call 24; ((with_reducible refine (cN _).mono ?_); rintro e w ⟨rfl, hb⟩; replace H := H.call hb; clear hb)); refine H.next (by repeat (first | with_reducible exact List.Sublist.refl _ | with_reducible apply List.Sublist.cons_cons | with_reducible apply List.Sublist.cons)) ?_; (try simp only [Act.put, List.setIfInBounds_toArray, List.set_cons_zero, List.set_cons_succ]); (try simp only [List.getElem_toArray, List.getElem_cons_zero, List.getElem_cons_succ]); (first | refine H.takeRun (by repeat (first | with_reducible exact List.Sublist.refl _ | with_reducible apply List.Sublist.cons_cons | with_reducible apply List.Sublist.cons)) 10 rfl (by kernel_rfl) (by kernel_rfl) (by kernel_rfl) (fun _ _ _ _ h => h) rfl (by intro w; go_simp; (try with_reducible rfl)) ?_ | refine H.takeOff (by repeat (first | with_reducible exact List.Sublist.refl _ | with_reducible apply List.Sublist.cons_cons | with_reducible apply List.Sublist.cons)) 10 rfl (by kernel_rfl) (by kernel_rfl) (by kernel_rfl) (fun _ _ _ _ h => h) rfl ?_); (try simp only [Act.put, List.setIfInBounds_toArray, List.set_cons_zero, List.set_cons_succ]); (try simp only [List.getElem_toArray, List.getElem_cons_zero, List.getElem_cons_succ]); refine H.takeRun (by repeat (first | with_reducible exact List.Sublist.refl _ | with_reducible apply List.Sublist.cons_cons | with_reducible apply List.Sublist.cons)) 11 rfl (by kernel_rfl) (by kernel_rfl) (by kernel_rfl) (fun _ _ _ _ h => h) rfl (by intro w; go_simp; (try with_reducible rfl)) ?_; (try simp only [Act.put, List.setIfInBounds_toArray, List.set_cons_zero, List.set_cons_succ]); (try simp only [List.getElem_toArray, List.getElem_cons_zero, List.getElem_cons_succ]); refine wpAnyH_done (by kernel_rfl) ?_ _)
    | (go_at_call 26; ((with_reducible refine (cA _ (HT.out.below H.below)).mono ?_); rintro e w ⟨rfl, hb⟩; replace H := H.call hb; clear hb))
    | (go_at_call 27; ((with_reducible refine (sqrtAlive_any _ (HT.out.below H.below)).mono ?_); rintro e w ⟨rfl, hb⟩; replace H := H.call hb; clear hb))
    | (go_at_call 28; ((with_reducible refine (cQ _ (HT.out.below H.below)).mono ?_); rintro e w ⟨rfl, hb⟩; replace H := H.call hb; clear hb))
    | (go_at_call 13; ((with_reducible refine (cS _).mono ?_); rintro e w ⟨rfl, hb⟩; replace H := H.call hb; clear hb))
    | (go_at_call 29; ((with_reducible refine (cF _).mono ?_); rintro e w ⟨rfl, hb⟩; replace H := H.call hb; clear hb))
    )
  all_goals (go_ret; exact ⟨rfl, H.below⟩)) : P := h
set_option maxHeartbeats 1600000 in
set_option maxRecDepth 100000 in
theorem sqrtSq_bad (f m a x : Nat) (w : World) (hT : Tab w) (fl : Int) (cA : ∀ w, Tab w → Calls Tryd.prog 26 #[.int .u8 f, .int .u8 m, BV a, BV a] w fun e w' => e = .returned (.tuple #[BV x, .int .u8 fl, .int .i64 2]) ∧ Below w.heap.size w w')  :
    Calls Tryd.prog 6 #[.int .u8 f, .int .u8 m, BV a] w fun e w' => e = .returned (.bool true) ∧ Below w.heap.size w w' := by
  have H := Own.start w
  have HT := Lib.hid hT
  clear hT
  go_enter Tryd.func6, Tryd.ntmps6
  exact walk6
set_option maxHeartbeats 1600000 in
set_option maxRecDepth 100000 in
theorem sqrtSq_flag (f m a x : Nat) (w : World) (hT : Tab w) (fl : Nat) (hfl : ((fl : Int) != 0) = true) (cA : ∀ w, Tab w → Calls Tryd.prog 26 #[.int .u8 f, .int .u8 m, BV a, BV a] w fun e w' => e = .returned (.tuple #[BV x, .int .u8 (fl : Nat), .int .i64 0]) ∧ Below w.heap.size w w')  :
    Calls Tryd.prog 6 #[.int .u8 f, .int .u8 m, BV a] w fun e w' => e = .returned (.bool true) ∧ Below w.heap.size w w' := by
  have H := Own.start w
  have HT := Lib.hid hT
  clear hT
  go_enter Tryd.func6, Tryd.ntmps6
  exact walk6
set_option maxHeartbeats 1600000 in
set_option maxRecDepth 100000 in
theorem sqrtSq_nan (f m a x : Nat) (w : World) (hT : Tab w) (cA : ∀ w, Tab w → Calls Tryd.prog 26 #[.int .u8 f, .int .u8 m, BV a, BV a] w fun e w' => e = .returned (.tuple #[BV x, .int .u8 0, .int .i64 0]) ∧ Below w.heap.size w w') (cN : ∀ w, Calls Tryd.prog 24 #[.int .u8 f] w fun e w' => e = .returned (BV x) ∧ Below w.heap.size w w') :
    Calls Tryd.prog 6 #[.int .u8 f, .int .u8 m, BV a] w fun e w' => e = .returned (.bool true) ∧ Below w.heap.size w w' := by
  have H := Own.start w
  have HT := Lib.hid hT
  clear hT
  go_enter Tryd.func6, Tryd.ntmps6
  exact walk6
set_option maxHeartbeats 1600000 in
set_option maxRecDepth 100000 in
theorem sqrtSq_good_true (f m a x : Nat) (w : World) (hT : Tab w) (n z : Nat) (hne : (limb x 1 == limb n 1 && limb x 0 == limb n 0) = false) (cA : ∀ w, Tab w → Calls Tryd.prog 26 #[.int .u8 f, .int .u8 m, BV a, BV a] w fun e w' => e = .returned (.tuple #[BV x, .int .u8 0, .int .i64 0]) ∧ Below w.heap.size w w') (cN : ∀ w, Calls Tryd.prog 24 #[.int .u8 f] w fun e w' => e = .returned (BV n) ∧ Below w.heap.size w w') (cQ : ∀ w, Tab w → Calls Tryd.prog 28 #[.int .u8 f, .int .u8 m, BV x] w fun e w' => e = .returned (.tuple #[BV z, .int .u8 0, .int .i64 0]) ∧ Below w.heap.size w w') (cS : ∀ w, Calls Tryd.prog 13 #[.int .u8 f, BV a] w fun e w' => e = .returned (.bool true) ∧ Below w.heap.size w w') (cF : ∀ w, Calls Tryd.prog 29 #[.int .u8 f, BV a] w fun e w' => e = .returned (BV z) ∧ Below w.heap.size w w') :
    Calls Tryd.prog 6 #[.int .u8 f, .int .u8 m, BV a] w fun e w' => e = .returned (.bool true) ∧ Below w.heap.size w w' := by
  have H := Own.start w
  have HT := Lib.hid hT
  clear hT
  have eq1 : ∀ w, (Op.equalIn 10000 27 (.agg #[.int .u64 (limb x 1), .int .u64 (limb x 0)]) (.agg #[.int .u64 (limb n 1), .int .u64 (limb n 0)])).run Tryd.prog w = .ok false w := fun w => (run_eq_bits x n w).trans (by rw [hne])
  go_enter Tryd.func6, Tryd.ntmps6
  exact walk6
set_option maxHeartbeats 1600000 in
set_option maxRecDepth 100000 in
theorem sqrtSq_good_false (f m a x : Nat) (w : World) (hT : Tab w) (n z : Nat) (hne : (limb x 1 == limb n 1 && limb x 0 == limb n 0) = false) (cA : ∀ w, Tab w → Calls Tryd.prog 26 #[.int .u8 f, .int .u8 m, BV a, BV a] w fun e w' => e = .returned (.tuple #[BV x, .int .u8 0, .int .i64 0]) ∧ Below w.heap.size w w') (cN : ∀ w, Calls Tryd.prog 24 #[.int .u8 f] w fun e w' => e = .returned (BV n) ∧ Below w.heap.size w w') (cQ : ∀ w, Tab w → Calls Tryd.prog 28 #[.int .u8 f, .int .u8 m, BV x] w fun e w' => e = .returned (.tuple #[BV a, .int .u8 0, .int .i64 0]) ∧ Below w.heap.size w w') (cS : ∀ w, Calls Tryd.prog 13 #[.int .u8 f, BV a] w fun e w' => e = .returned (.bool false) ∧ Below w.heap.size w w') (cF : ∀ w, Calls Tryd.prog 29 #[.int .u8 f, BV a] w fun e w' => e = .returned (BV z) ∧ Below w.heap.size w w') :
    Calls Tryd.prog 6 #[.int .u8 f, .int .u8 m, BV a] w fun e w' => e = .returned (.bool true) ∧ Below w.heap.size w w' := by
  have H := Own.start w
  have HT := Lib.hid hT
  clear hT
  have eq1 : ∀ w, (Op.equalIn 10000 27 (.agg #[.int .u64 (limb x 1), .int .u64 (limb x 0)]) (.agg #[.int .u64 (limb n 1), .int .u64 (limb n 0)])).run Tryd.prog w = .ok false w := fun w => (run_eq_bits x n w).trans (by rw [hne])
  go_enter Tryd.func6, Tryd.ntmps6
  exact walk6
theorem sqrtSquares_any (f m a : Nat) (w : World) (hf : f < 256) (hm : m < 256) (ha : a < 2 ^ (64 * 2)) (hT : Tab w) :
    Calls Tryd.prog 6 #[.int .u8 f, .int .u8 m, BV a] w fun e w' => e = .returned (.bool true) ∧ Below w.heap.size w w' := by
  have cA := fun w hT => mulMul_any f m a a w hf hm ha ha hT
  have cN := fun w => shapeNaN_any f w hf
  cases hok : binOk f m a a
  · have hN : mulN f m a a = (0, 0, 2) := by unfold mulN; rw [hok]; rfl
    rw [hN] at cA
    exact sqrtSq_bad f m a _ w hT _ cA
  obtain ⟨⟨hf4', hm5'⟩, hfa, -⟩ : (decide (f < 4) = true ∧ decide (m < 5) = true) ∧ fitsB f a = true ∧ fitsB f a = true := by unfold binOk at hok; simp only [Bool.and_eq_true] at hok; exact hok
  have hf4 := of_decide_eq_true hf4'
  have hN : mulN f m a a = ((mulR f m a a).1, (mulR f m a a).2, 0) := by unfold mulN; rw [hok]; rfl
  rw [hN] at cA
  by_cases hfl : (mulR f m a a).2 = 0
  case neg => exact sqrtSq_flag f m a _ w hT _ (by unfold bne; rw [show ((((mulR f m a a).2 : Nat) : Int) == 0) = false from (cast_beq _ 0).trans (decide_eq_false hfl)]; rfl) cA
  by_cases hn : (mulR f m a a).1 = nanN f
  case pos =>
    simp only [hfl, hn] at cA
    exact sqrtSq_nan f m a _ w hT cA cN
  obtain ⟨h1, h2⟩ := sqrt_square f m a hf4 hfa hfl hn
  have hxb := below_fits f _ h1
  have hnb : nanN f < 2 ^ (64 * 2) := by
    have : f = 0 ∨ f = 1 ∨ f = 2 ∨ f = 3 := by omega
    rcases this with rfl | rfl | rfl | rfl <;> decide +kernel
  have cQ := fun w hT => sqrtSqrt_any f m (mulR f m a a).1 w hf hm hxb hT
  have hQ : sqrtN f m (mulR f m a a).1 = (absN f a, 0, 0) := by
    have hu : unOk f m (mulR f m a a).1 = true := by unfold unOk; rw [hf4', hm5', h1]; rfl
    unfold sqrtN; rw [hu, h2]; rfl
  rw [hQ] at cQ
  have cS := fun w => kindSign_any f a w hf ha
  have cF := fun w => kindFlip_any f a w hf ha
  rw [hfa, Bool.true_and] at cS
  have hne := bits_diff _ _ hxb hnb hn
  simp only [hfl] at cA
  unfold absN at cQ
  cases hs : negN f a
  · rw [hs] at cS cQ
    exact sqrtSq_good_false f m a _ w hT _ _ hne cA cN cQ cS cF
  · rw [hs] at cS cQ
    exact sqrtSq_good_true f m a _ w hT _ _ hne cA cN cQ cS cF
end Go.Proofs.YtdcgcjmajacgiaaDoor
