/- Part 6 of what is proved: Pcx, Pco, Pe, Pkj, Pd, Ps, Lm, Pa, Kfs, Kfj, Bld, Wsub, Wcmp, Ad0. -/
import Derived.Deep.RegionWith
import Derived.Deep.RegionHeld3
import Derived.Deep.QuietTactic
import Derived.BigQuiet
import Derived.StillTailTactics
import Derived.Outline
import Derived.Test.YtjgonofkklpgaaaDoorAt5
set_option linter.unusedSimpArgs false
set_option linter.unusedVariables false
set_option linter.unnecessarySimpa false
namespace Go.Proofs.YtjgonofkklpgaaaDoor
open Go.RowKit
theorem walkPcx69 {P : Prop} (h : P := by
  go_wp2_with (first
    | ((with_reducible show wpList _ _ _ (⟨_, .box _ _, _, _, _, _⟩ :: _) _ _); refine H.box rfl rfl (cells_agg _) ?_; (intro g w H; simp only [Act.put, List.setIfInBounds_toArray, List.set_cons_zero, List.set_cons_succ]))
    | ((with_reducible show wpList _ _ _ (⟨_, .alloc 26, _, _, _, _⟩ :: _) _ _); refine H.mk0 rfl rB rfl ?_; (intro g w H; simp only [Act.put, List.setIfInBounds_toArray, List.set_cons_zero, List.set_cons_succ]))
    | ((with_reducible show wpList _ _ _ (⟨_, .alloc 35, _, _, _, _⟩ :: _) _ _); refine H.mk0 rfl rW rfl ?_; (intro g w H; simp only [Act.put, List.setIfInBounds_toArray, List.set_cons_zero, List.set_cons_succ]))
    | ((with_reducible show wpList _ _ _ (⟨_, .load 92 _, _, _, _, _⟩ :: _) _ _); refine H.ld rfl rR rfl rfl (by repeat (first | with_reducible exact List.mem_cons_self | apply List.mem_cons_of_mem)) (by first | with_reducible exact ext_rough _ _ _ _) (by rfl) ?_; simp only [Act.put, List.setIfInBounds_toArray, List.set_cons_zero, List.set_cons_succ])
    | ((with_reducible show wpList _ _ _ (⟨_, .load 3 _, _, _, _, _⟩ :: _) _ _); refine H.ld1 rfl oI rfl rfl (by repeat (first | with_reducible exact List.mem_cons_self | apply List.mem_cons_of_mem)) (by first | with_reducible exact get_rough7 _ _ _ _ | with_reducible exact get_parts7 _ _ _ _ | with_reducible exact get_10 _) ?_; simp only [Act.put, List.setIfInBounds_toArray, List.set_cons_zero, List.set_cons_succ])
    | ((with_reducible show wpList _ _ _ (⟨_, .load 4 _, _, _, _, _⟩ :: _) _ _); refine H.ld1 rfl oT rfl rfl (by repeat (first | with_reducible exact List.mem_cons_self | apply List.mem_cons_of_mem)) (by first | with_reducible exact get_rough0 _ _ _ _ | with_reducible exact get_rough8 _ _ _ _ | with_reducible exact get_10 _) ?_; simp only [Act.put, List.setIfInBounds_toArray, List.set_cons_zero, List.set_cons_succ])
    | ((with_reducible show wpList _ _ _ (⟨_, .load 35 _, _, _, _, _⟩ :: _) _ _); refine H.ld rfl rW rfl rfl (by repeat (first | with_reducible exact List.mem_cons_self | apply List.mem_cons_of_mem)) (by first | with_reducible exact ext_limbs _ | with_reducible exact ext_parts_s _ _ _ _ | with_reducible exact ext_rough_s _ _ _ _ | with_reducible exact ext_parts_f _ _ _ _) (by rfl) ?_; simp only [Act.put, List.setIfInBounds_toArray, List.set_cons_zero, List.set_cons_succ])
    | ((with_reducible show wpList _ _ _ (⟨_, .load 24 _, _, _, _, _⟩ :: _) _ _); refine H.ld1 rfl oU rfl rfl (by repeat (first | with_reducible exact List.mem_cons_self | apply List.mem_cons_of_mem)) (by first | with_reducible exact get_20 _ _ | with_reducible exact get_21 _ _ | with_reducible exact limbs_o0 _ | with_reducible exact limbs_o1 _ | with_reducible exact limbs_o2 _ | with_reducible exact limbs_o3 _ | with_reducible exact limbs_o4 _ | with_reducible exact limbs_o5 _) ?_; simp only [Act.put, List.setIfInBounds_toArray, List.set_cons_zero, List.set_cons_succ])
    | ((with_reducible show wpList _ _ _ (⟨_, .store 26 _ _, _, _, _, _⟩ :: _) _ _); refine H.st rfl rB rfl rfl (cells_agg _) (by repeat (first | with_reducible exact Upd.head _ | apply Upd.tail)) (set_bits _ _ _ _) (by rfl) (by exact one_of rfl) (by first | exact ble_le rfl | (change _ + 1 ≤ 12; omega) | (change _ + 1 ≤ 6; omega)) ?_; (intro w H; simp only [Act.put]))
    | ((with_reducible show wpList _ _ _ (⟨_, .store 35 _ _, _, _, _, _⟩ :: _) _ _); refine H.st rfl rW rfl rfl (cells_agg _) (by repeat (first | with_reducible exact Upd.head _ | apply Upd.tail)) (set_limbs _ _) (by rfl) (by exact one_of rfl) (by first | exact ble_le rfl | (change _ + 1 ≤ 12; omega) | (change _ + 1 ≤ 6; omega)) ?_; (intro w H; simp only [Act.put]))
    | ((with_reducible show Code.wp _ (.region 6 _ true) _ _ _); refine H.heldSub rfl (List.Sublist.refl _) ?_; intro H; refine H.takeRun (List.Sublist.refl _) 0 rfl (by kernel_rfl) (by kernel_rfl) (by kernel_rfl) (fun _ _ _ _ h => h) rfl (by intro w; go_simp; (try with_reducible rfl)) ?_; (try simp only [Act.put, List.setIfInBounds_toArray, List.set_cons_zero, List.set_cons_succ]); (try simp only [List.getElem_toArray, List.getElem_cons_zero, List.getElem_cons_succ]); (first | refine H.tk (List.Sublist.refl _) 1 rfl (by kernel_rfl) (by kernel_rfl) (by kernel_rfl) (fun _ _ _ _ h => h) rfl rW rfl rfl (by repeat (first | with_reducible exact List.mem_cons_self | apply List.mem_cons_of_mem)) (by first | with_reducible exact ext_limbs _ | with_reducible exact ext_parts_s _ _ _ _ | with_reducible exact ext_rough_s _ _ _ _ | with_reducible exact ext_parts_f _ _ _ _) (by rfl) ?_ | refine H.tk1 (List.Sublist.refl _) 1 rfl (by kernel_rfl) (by kernel_rfl) (by kernel_rfl) (fun _ _ _ _ h => h) rfl oI rfl rfl (by repeat (first | with_reducible exact List.mem_cons_self | apply List.mem_cons_of_mem)) (by first | with_reducible exact get_rough7 _ _ _ _ | with_reducible exact get_parts7 _ _ _ _ | with_reducible exact get_10 _) ?_); (try simp only [Act.put, List.setIfInBounds_toArray, List.set_cons_zero, List.set_cons_succ]); (try simp only [List.getElem_toArray, List.getElem_cons_zero, List.getElem_cons_succ]); refine H.takeRun (List.Sublist.refl _) 4 rfl (by kernel_rfl) (by kernel_rfl) (by kernel_rfl) (fun _ _ _ _ h => h) rfl (by intro w; go_simp; (try with_reducible rfl)) ?_; (try simp only [Act.put, List.setIfInBounds_toArray, List.set_cons_zero, List.set_cons_succ]); (try simp only [List.getElem_toArray, List.getElem_cons_zero, List.getElem_cons_succ]); (first | refine H.tk (List.Sublist.refl _) 5 rfl (by kernel_rfl) (by kernel_rfl) (by kernel_rfl) (fun _ _ _ _ h => h) rfl rW rfl rfl (by repeat (first | with_reducible exact List.mem_cons_self | apply List.mem_cons_of_mem)) (by first | with_reducible exact ext_limbs _ | with_reducible exact ext_parts_s _ _ _ _ | with_reducible exact ext_rough_s _ _ _ _ | with_reducible exact ext_parts_f _ _ _ _) (by rfl) ?_ | refine H.tk1 (List.Sublist.refl _) 5 rfl (by kernel_rfl) (by kernel_rfl) (by kernel_rfl) (fun _ _ _ _ h => h) rfl oI rfl rfl (by repeat (first | with_reducible exact List.mem_cons_self | apply List.mem_cons_of_mem)) (by first | with_reducible exact get_rough7 _ _ _ _ | with_reducible exact get_parts7 _ _ _ _ | with_reducible exact get_10 _) ?_); (try simp only [Act.put, List.setIfInBounds_toArray, List.set_cons_zero, List.set_cons_succ]); (try simp only [List.getElem_toArray, List.getElem_cons_zero, List.getElem_cons_succ]); refine held_one (i := 2) (by kernel_rfl) rfl rfl ?_; unfold Oper.wp; go_simp; (go_at_call 101; ((with_reducible refine (cL _).mono ?_); rintro e w ⟨rfl, hb⟩; replace H := H.call hb; clear hb)); refine H.next (List.Sublist.refl _) ?_; (try simp only [Act.put, List.setIfInBounds_toArray, List.set_cons_zero, List.set_cons_succ]); (try simp only [List.getElem_toArray, List.getElem_cons_zero, List.getElem_cons_succ]); refine H.takeRun (List.Sublist.refl _) 3 rfl (by kernel_rfl) (by kernel_rfl) (by kernel_rfl) (fun _ _ _ _ h => h) rfl (by intro w; go_simp; (try with_reducible rfl)) ?_; (try simp only [Act.put, List.setIfInBounds_toArray, List.set_cons_zero, List.set_cons_succ]); (try simp only [List.getElem_toArray, List.getElem_cons_zero, List.getElem_cons_succ]); refine H.takeRun (List.Sublist.refl _) 6 rfl (by kernel_rfl) (by kernel_rfl) (by kernel_rfl) (fun _ _ _ _ h => h) rfl (by intro w; go_simp; (try with_reducible rfl)) ?_; (try simp only [Act.put, List.setIfInBounds_toArray, List.set_cons_zero, List.set_cons_succ]); (try simp only [List.getElem_toArray, List.getElem_cons_zero, List.getElem_cons_succ]); refine H.takeRun (List.Sublist.refl _) 7 rfl (by kernel_rfl) (by kernel_rfl) (by kernel_rfl) (fun _ _ _ _ h => h) rfl (by intro w; go_simp; (try with_reducible rfl)) ?_; (try simp only [Act.put, List.setIfInBounds_toArray, List.set_cons_zero, List.set_cons_succ]); (try simp only [List.getElem_toArray, List.getElem_cons_zero, List.getElem_cons_succ]); refine wpAnyH_done (by kernel_rfl) ?_ _)
    | (go_at_call 75; ((with_reducible refine (cP _).mono ?_); rintro e w ⟨rfl, hb⟩; replace H := H.call hb; clear hb))
    | (go_at_call 138; ((with_reducible refine (cR _).mono ?_); rintro e w' ⟨rfl, rfl⟩))
    | (go_at_call 101; ((with_reducible refine (cL _).mono ?_); rintro e w ⟨rfl, hb⟩; replace H := H.call hb; clear hb))
    | (go_at_call 119; ((with_reducible refine (cE _).mono ?_); rintro e w ⟨rfl, hb⟩; replace H := H.call hb; clear hb))
    | (go_at_call 74; ((with_reducible refine (cX _).mono ?_); rintro e w ⟨rfl, hb⟩; replace H := H.call hb; clear hb))
    | (go_at_call 140; ((with_reducible refine (cG _ (HT.out.below H.below)).mono ?_); rintro e w ⟨rfl, hb⟩; replace H := H.call hb; clear hb))
    | (go_at_call 101; ((with_reducible refine (cK _).mono ?_); rintro e w ⟨rfl, hb⟩; replace H := H.call hb; clear hb))
    | (go_at_call 55; ((with_reducible refine (cOf _).mono ?_); rintro e w ⟨rfl, hb⟩; replace H := H.call hb; clear hb))
    | (go_at_call 57; ((with_reducible refine (cLf _).mono ?_); rintro e w ⟨rfl, hb⟩; replace H := H.call hb; clear hb))
    | (go_at_call 60; ((with_reducible refine (cAd _).mono ?_); rintro e w ⟨rfl, hb⟩; replace H := H.call hb; clear hb))
    | (go_at_call 142; ((with_reducible refine (cB _).mono ?_); rintro e w ⟨rfl, hb⟩; replace H := H.call hb; clear hb))
    | (go_at_call 38; ((with_reducible refine (cZ _).mono ?_); rintro e w ⟨rfl, hb⟩; replace H := H.call hb; clear hb))
    | (go_at_call 141; ((with_reducible refine (cT _ (HT.out.below H.below)).mono ?_); rintro e w ⟨rfl, hb⟩; replace H := H.call hb; clear hb))
    )
  all_goals (refine bodyPost_ret (results_ctt rfl rfl (H.res rB (by repeat (first | with_reducible exact List.mem_cons_self | apply List.mem_cons_of_mem)) (by first | with_reducible exact ext_2 _ _) (by rfl))) rfl ⟨?_, H.below⟩; exact rfl)) : P := h
set_option maxHeartbeats 1600000 in
set_option maxRecDepth 100000 in
theorem roundPack_x_f (f m s p l E k lk z n1 n2 n3 bb : Nat) (e top lo : Int) (neg lo1 lo2 lo3 : Bool) (w : World) (hT : Tab w) (hp : p ≤ 113) (h1 : -1048576 ≤ e) (h2 : e ≤ 1048576) (hl4 : l ≤ 384) (cP : ∀ w, Calls Tryd.prog 75 #[.int .u8 f] w fun e w' => e = .returned (.int .i64 (p : Nat)) ∧ Below w.heap.size w w') (cR : ∀ w, Calls Tryd.prog 138 #[.int .u8 f, .int .u8 m] w fun e w' => e = .returned (.bool true) ∧ w = w') (cL : ∀ w, Calls Tryd.prog 101 #[W s] w fun e w' => e = .returned (.int .i64 (l : Nat)) ∧ Below w.heap.size w w') (hs : s < top6) (hs0 : decide (s = 0) = false) (htop : (l : Int) - 1 + e = top) (l1 : -20000 ≤ lo) (l2 : lo ≤ 20000) (t1 : -1100000 ≤ top) (t2 : top ≤ 1100000) (hE : E ≤ 16383) (cE : ∀ w, Calls Tryd.prog 119 #[.int .u8 f] w fun e w' => e = .returned (.int .i64 lo) ∧ Below w.heap.size w w') (cX : ∀ w, Calls Tryd.prog 74 #[.int .u8 f] w fun e w' => e = .returned (.int .i64 (E : Nat)) ∧ Below w.heap.size w w') (hlk : lk ≤ 384) (hov : ¬ (E : Int) < top) (hov2 : ¬ (E : Int) < (lk : Int) - 1 + (max top lo - (p : Int) + 1)) (cG : ∀ w, Tab w → Calls Tryd.prog 140 #[.int .u8 m, RV neg s e false, .int .i64 (max top lo - (p : Int) + 1)] w fun e w' => e = .returned (.tuple #[W k, .bool true]) ∧ Below w.heap.size w w') (cK : ∀ w, Calls Tryd.prog 101 #[W k] w fun e w' => e = .returned (.int .i64 (lk : Nat)) ∧ Below w.heap.size w w') (cOf : ∀ w, Calls Tryd.prog 55 #[.int .u64 (max top lo - (p : Int) + 1 - lo + (p : Int) - 1)] w fun e w' => e = .returned (W n1) ∧ Below w.heap.size w w') (cLf : ∀ w, Calls Tryd.prog 57 #[W n1, .int .i64 ((p : Int) - 1)] w fun e w' => e = .returned (.tuple #[W n2, .bool lo1]) ∧ Below w.heap.size w w') (cAd : ∀ w, Calls Tryd.prog 60 #[W n2, W k] w fun e w' => e = .returned (.tuple #[W n3, .bool lo2]) ∧ Below w.heap.size w w') (cB : ∀ w, Calls Tryd.prog 142 #[W n3] w fun e w' => e = .returned (.tuple #[BV bb, .bool lo3]) ∧ Below w.heap.size w w') (cZ : ∀ w, Calls Tryd.prog 38 #[.int .u8 f, .bool neg] w fun e w' => e = .returned (BV z) ∧ Below w.heap.size w w')  :
    Calls Tryd.prog 69 #[.int .u8 f, .int .u8 m, RV neg s e false] w fun e w' => e = .returned (.tuple #[.agg #[.int .u64 (Go.bits .or .u64 (limb bb 1) (limb z 1)), .int .u64 (Go.bits .or .u64 (limb bb 0) (limb z 0))], .int .u8 0, .int .i64 0]) ∧ Below w.heap.size w w' := by
  have H := Own.start w
  have HT := Lib.hid hT
  clear hT
  have he2 : decide (e < -1048576) = false := by simp; omega
  have he3 : decide (1048576 < e) = false := by simp; omega
  have eq1 : ∀ w, (Op.equalIn 10000 35 (.agg (limbs s)) (.agg #[.int .u64 0, .int .u64 0, .int .u64 0, .int .u64 0, .int .u64 0, .int .u64 0])).run Tryd.prog w = .ok false w := fun w => (run_equal_zero w s hs).trans (by rw [hs0])
  have v1 : IntKind.i64.wrap ((l : Int) - 1) = (l : Int) - 1 := IntWalk.i64_in _ (by omega)
  have v2 : IntKind.i64.wrap ((l : Int) - 1 + e) = top := by rw [htop]; exact IntWalk.i64_in _ (by omega)
  clear hs hs0 htop
  have hov3 : decide ((E : Int) < top) = false := by simp; omega
  have hov4 : decide ((E : Int) < (lk : Int) - 1 + (max top lo - (p : Int) + 1)) = false := by simp only [decide_eq_false_iff_not]; exact hov2
  go_enter Tryd.func69, Tryd.ntmps69
  exact walkPcx69
set_option maxHeartbeats 1600000 in
set_option maxRecDepth 100000 in
theorem roundPack_i_f (f m s p l E k lk z n1 n2 n3 bb : Nat) (e top lo : Int) (neg lo1 lo2 lo3 : Bool) (w : World) (hT : Tab w) (hp : p ≤ 113) (h1 : -1048576 ≤ e) (h2 : e ≤ 1048576) (hl4 : l ≤ 384) (cP : ∀ w, Calls Tryd.prog 75 #[.int .u8 f] w fun e w' => e = .returned (.int .i64 (p : Nat)) ∧ Below w.heap.size w w') (cR : ∀ w, Calls Tryd.prog 138 #[.int .u8 f, .int .u8 m] w fun e w' => e = .returned (.bool true) ∧ w = w') (cL : ∀ w, Calls Tryd.prog 101 #[W s] w fun e w' => e = .returned (.int .i64 (l : Nat)) ∧ Below w.heap.size w w') (hs : s < top6) (hs0 : decide (s = 0) = false) (htop : (l : Int) - 1 + e = top) (l1 : -20000 ≤ lo) (l2 : lo ≤ 20000) (t1 : -1100000 ≤ top) (t2 : top ≤ 1100000) (hE : E ≤ 16383) (cE : ∀ w, Calls Tryd.prog 119 #[.int .u8 f] w fun e w' => e = .returned (.int .i64 lo) ∧ Below w.heap.size w w') (cX : ∀ w, Calls Tryd.prog 74 #[.int .u8 f] w fun e w' => e = .returned (.int .i64 (E : Nat)) ∧ Below w.heap.size w w') (hlk : lk ≤ 384) (hov : ¬ (E : Int) < top) (hov2 : ¬ (E : Int) < (lk : Int) - 1 + (max top lo - (p : Int) + 1)) (cG : ∀ w, Tab w → Calls Tryd.prog 140 #[.int .u8 m, RV neg s e false, .int .i64 (max top lo - (p : Int) + 1)] w fun e w' => e = .returned (.tuple #[W k, .bool false]) ∧ Below w.heap.size w w') (cK : ∀ w, Calls Tryd.prog 101 #[W k] w fun e w' => e = .returned (.int .i64 (lk : Nat)) ∧ Below w.heap.size w w') (cOf : ∀ w, Calls Tryd.prog 55 #[.int .u64 (max top lo - (p : Int) + 1 - lo + (p : Int) - 1)] w fun e w' => e = .returned (W n1) ∧ Below w.heap.size w w') (cLf : ∀ w, Calls Tryd.prog 57 #[W n1, .int .i64 ((p : Int) - 1)] w fun e w' => e = .returned (.tuple #[W n2, .bool lo1]) ∧ Below w.heap.size w w') (cAd : ∀ w, Calls Tryd.prog 60 #[W n2, W k] w fun e w' => e = .returned (.tuple #[W n3, .bool lo2]) ∧ Below w.heap.size w w') (cB : ∀ w, Calls Tryd.prog 142 #[W n3] w fun e w' => e = .returned (.tuple #[BV bb, .bool lo3]) ∧ Below w.heap.size w w') (cZ : ∀ w, Calls Tryd.prog 38 #[.int .u8 f, .bool neg] w fun e w' => e = .returned (BV z) ∧ Below w.heap.size w w') (cT : ∀ w, Tab w → Calls Tryd.prog 141 #[.int .u8 f, .int .u8 m, RV neg s e false, .int .i64 top] w fun e w' => e = .returned (.bool false) ∧ Below w.heap.size w w')  :
    Calls Tryd.prog 69 #[.int .u8 f, .int .u8 m, RV neg s e false] w fun e w' => e = .returned (.tuple #[.agg #[.int .u64 (Go.bits .or .u64 (limb bb 1) (limb z 1)), .int .u64 (Go.bits .or .u64 (limb bb 0) (limb z 0))], .int .u8 (Go.bits .or .u8 0 1), .int .i64 0]) ∧ Below w.heap.size w w' := by
  have H := Own.start w
  have HT := Lib.hid hT
  clear hT
  have he2 : decide (e < -1048576) = false := by simp; omega
  have he3 : decide (1048576 < e) = false := by simp; omega
  have eq1 : ∀ w, (Op.equalIn 10000 35 (.agg (limbs s)) (.agg #[.int .u64 0, .int .u64 0, .int .u64 0, .int .u64 0, .int .u64 0, .int .u64 0])).run Tryd.prog w = .ok false w := fun w => (run_equal_zero w s hs).trans (by rw [hs0])
  have v1 : IntKind.i64.wrap ((l : Int) - 1) = (l : Int) - 1 := IntWalk.i64_in _ (by omega)
  have v2 : IntKind.i64.wrap ((l : Int) - 1 + e) = top := by rw [htop]; exact IntWalk.i64_in _ (by omega)
  clear hs hs0 htop
  have hov3 : decide ((E : Int) < top) = false := by simp; omega
  have hov4 : decide ((E : Int) < (lk : Int) - 1 + (max top lo - (p : Int) + 1)) = false := by simp only [decide_eq_false_iff_not]; exact hov2
  go_enter Tryd.func69, Tryd.ntmps69
  exact walkPcx69
set_option maxHeartbeats 1600000 in
set_option maxRecDepth 100000 in
theorem roundPack_u_f (f m s p l E k lk z n1 n2 n3 bb : Nat) (e top lo : Int) (neg lo1 lo2 lo3 : Bool) (w : World) (hT : Tab w) (hp : p ≤ 113) (h1 : -1048576 ≤ e) (h2 : e ≤ 1048576) (hl4 : l ≤ 384) (cP : ∀ w, Calls Tryd.prog 75 #[.int .u8 f] w fun e w' => e = .returned (.int .i64 (p : Nat)) ∧ Below w.heap.size w w') (cR : ∀ w, Calls Tryd.prog 138 #[.int .u8 f, .int .u8 m] w fun e w' => e = .returned (.bool true) ∧ w = w') (cL : ∀ w, Calls Tryd.prog 101 #[W s] w fun e w' => e = .returned (.int .i64 (l : Nat)) ∧ Below w.heap.size w w') (hs : s < top6) (hs0 : decide (s = 0) = false) (htop : (l : Int) - 1 + e = top) (l1 : -20000 ≤ lo) (l2 : lo ≤ 20000) (t1 : -1100000 ≤ top) (t2 : top ≤ 1100000) (hE : E ≤ 16383) (cE : ∀ w, Calls Tryd.prog 119 #[.int .u8 f] w fun e w' => e = .returned (.int .i64 lo) ∧ Below w.heap.size w w') (cX : ∀ w, Calls Tryd.prog 74 #[.int .u8 f] w fun e w' => e = .returned (.int .i64 (E : Nat)) ∧ Below w.heap.size w w') (hlk : lk ≤ 384) (hov : ¬ (E : Int) < top) (hov2 : ¬ (E : Int) < (lk : Int) - 1 + (max top lo - (p : Int) + 1)) (cG : ∀ w, Tab w → Calls Tryd.prog 140 #[.int .u8 m, RV neg s e false, .int .i64 (max top lo - (p : Int) + 1)] w fun e w' => e = .returned (.tuple #[W k, .bool false]) ∧ Below w.heap.size w w') (cK : ∀ w, Calls Tryd.prog 101 #[W k] w fun e w' => e = .returned (.int .i64 (lk : Nat)) ∧ Below w.heap.size w w') (cOf : ∀ w, Calls Tryd.prog 55 #[.int .u64 (max top lo - (p : Int) + 1 - lo + (p : Int) - 1)] w fun e w' => e = .returned (W n1) ∧ Below w.heap.size w w') (cLf : ∀ w, Calls Tryd.prog 57 #[W n1, .int .i64 ((p : Int) - 1)] w fun e w' => e = .returned (.tuple #[W n2, .bool lo1]) ∧ Below w.heap.size w w') (cAd : ∀ w, Calls Tryd.prog 60 #[W n2, W k] w fun e w' => e = .returned (.tuple #[W n3, .bool lo2]) ∧ Below w.heap.size w w') (cB : ∀ w, Calls Tryd.prog 142 #[W n3] w fun e w' => e = .returned (.tuple #[BV bb, .bool lo3]) ∧ Below w.heap.size w w') (cZ : ∀ w, Calls Tryd.prog 38 #[.int .u8 f, .bool neg] w fun e w' => e = .returned (BV z) ∧ Below w.heap.size w w') (cT : ∀ w, Tab w → Calls Tryd.prog 141 #[.int .u8 f, .int .u8 m, RV neg s e false, .int .i64 top] w fun e w' => e = .returned (.bool true) ∧ Below w.heap.size w w')  :
    Calls Tryd.prog 69 #[.int .u8 f, .int .u8 m, RV neg s e false] w fun e w' => e = .returned (.tuple #[.agg #[.int .u64 (Go.bits .or .u64 (limb bb 1) (limb z 1)), .int .u64 (Go.bits .or .u64 (limb bb 0) (limb z 0))], .int .u8 (Go.bits .or .u8 (Go.bits .or .u8 0 1) 2), .int .i64 0]) ∧ Below w.heap.size w w' := by
  have H := Own.start w
  have HT := Lib.hid hT
  clear hT
  have he2 : decide (e < -1048576) = false := by simp; omega
  have he3 : decide (1048576 < e) = false := by simp; omega
  have eq1 : ∀ w, (Op.equalIn 10000 35 (.agg (limbs s)) (.agg #[.int .u64 0, .int .u64 0, .int .u64 0, .int .u64 0, .int .u64 0, .int .u64 0])).run Tryd.prog w = .ok false w := fun w => (run_equal_zero w s hs).trans (by rw [hs0])
  have v1 : IntKind.i64.wrap ((l : Int) - 1) = (l : Int) - 1 := IntWalk.i64_in _ (by omega)
  have v2 : IntKind.i64.wrap ((l : Int) - 1 + e) = top := by rw [htop]; exact IntWalk.i64_in _ (by omega)
  clear hs hs0 htop
  have hov3 : decide ((E : Int) < top) = false := by simp; omega
  have hov4 : decide ((E : Int) < (lk : Int) - 1 + (max top lo - (p : Int) + 1)) = false := by simp only [decide_eq_false_iff_not]; exact hov2
  go_enter Tryd.func69, Tryd.ntmps69
  exact walkPcx69
set_option maxHeartbeats 1600000 in
set_option maxRecDepth 100000 in
theorem roundPack_x_t (f m s p l E k lk z n1 n2 n3 bb : Nat) (e top lo : Int) (neg lo1 lo2 lo3 : Bool) (w : World) (hT : Tab w) (hp : p ≤ 113) (h1 : -1048576 ≤ e) (h2 : e ≤ 1048576) (hl4 : l ≤ 384) (hl : ¬ l < p + 2) (cP : ∀ w, Calls Tryd.prog 75 #[.int .u8 f] w fun e w' => e = .returned (.int .i64 (p : Nat)) ∧ Below w.heap.size w w') (cR : ∀ w, Calls Tryd.prog 138 #[.int .u8 f, .int .u8 m] w fun e w' => e = .returned (.bool true) ∧ w = w') (cL : ∀ w, Calls Tryd.prog 101 #[W s] w fun e w' => e = .returned (.int .i64 (l : Nat)) ∧ Below w.heap.size w w') (hs : s < top6) (hs0 : decide (s = 0) = false) (htop : (l : Int) - 1 + e = top) (l1 : -20000 ≤ lo) (l2 : lo ≤ 20000) (t1 : -1100000 ≤ top) (t2 : top ≤ 1100000) (hE : E ≤ 16383) (cE : ∀ w, Calls Tryd.prog 119 #[.int .u8 f] w fun e w' => e = .returned (.int .i64 lo) ∧ Below w.heap.size w w') (cX : ∀ w, Calls Tryd.prog 74 #[.int .u8 f] w fun e w' => e = .returned (.int .i64 (E : Nat)) ∧ Below w.heap.size w w') (hlk : lk ≤ 384) (hov : ¬ (E : Int) < top) (hov2 : ¬ (E : Int) < (lk : Int) - 1 + (max top lo - (p : Int) + 1)) (cG : ∀ w, Tab w → Calls Tryd.prog 140 #[.int .u8 m, RV neg s e true, .int .i64 (max top lo - (p : Int) + 1)] w fun e w' => e = .returned (.tuple #[W k, .bool true]) ∧ Below w.heap.size w w') (cK : ∀ w, Calls Tryd.prog 101 #[W k] w fun e w' => e = .returned (.int .i64 (lk : Nat)) ∧ Below w.heap.size w w') (cOf : ∀ w, Calls Tryd.prog 55 #[.int .u64 (max top lo - (p : Int) + 1 - lo + (p : Int) - 1)] w fun e w' => e = .returned (W n1) ∧ Below w.heap.size w w') (cLf : ∀ w, Calls Tryd.prog 57 #[W n1, .int .i64 ((p : Int) - 1)] w fun e w' => e = .returned (.tuple #[W n2, .bool lo1]) ∧ Below w.heap.size w w') (cAd : ∀ w, Calls Tryd.prog 60 #[W n2, W k] w fun e w' => e = .returned (.tuple #[W n3, .bool lo2]) ∧ Below w.heap.size w w') (cB : ∀ w, Calls Tryd.prog 142 #[W n3] w fun e w' => e = .returned (.tuple #[BV bb, .bool lo3]) ∧ Below w.heap.size w w') (cZ : ∀ w, Calls Tryd.prog 38 #[.int .u8 f, .bool neg] w fun e w' => e = .returned (BV z) ∧ Below w.heap.size w w')  :
    Calls Tryd.prog 69 #[.int .u8 f, .int .u8 m, RV neg s e true] w fun e w' => e = .returned (.tuple #[.agg #[.int .u64 (Go.bits .or .u64 (limb bb 1) (limb z 1)), .int .u64 (Go.bits .or .u64 (limb bb 0) (limb z 0))], .int .u8 0, .int .i64 0]) ∧ Below w.heap.size w w' := by
  have H := Own.start w
  have HT := Lib.hid hT
  clear hT
  have he2 : decide (e < -1048576) = false := by simp; omega
  have he3 : decide (1048576 < e) = false := by simp; omega
  have hl2 : decide ((l : Int) < (p : Int) + 2) = false := by simp; omega
  have eq1 : ∀ w, (Op.equalIn 10000 35 (.agg (limbs s)) (.agg #[.int .u64 0, .int .u64 0, .int .u64 0, .int .u64 0, .int .u64 0, .int .u64 0])).run Tryd.prog w = .ok false w := fun w => (run_equal_zero w s hs).trans (by rw [hs0])
  have v1 : IntKind.i64.wrap ((l : Int) - 1) = (l : Int) - 1 := IntWalk.i64_in _ (by omega)
  have v2 : IntKind.i64.wrap ((l : Int) - 1 + e) = top := by rw [htop]; exact IntWalk.i64_in _ (by omega)
  clear hs hs0 htop
  have hov3 : decide ((E : Int) < top) = false := by simp; omega
  have hov4 : decide ((E : Int) < (lk : Int) - 1 + (max top lo - (p : Int) + 1)) = false := by simp only [decide_eq_false_iff_not]; exact hov2
  go_enter Tryd.func69, Tryd.ntmps69
  exact walkPcx69
set_option maxHeartbeats 1600000 in
set_option maxRecDepth 100000 in
theorem roundPack_i_t (f m s p l E k lk z n1 n2 n3 bb : Nat) (e top lo : Int) (neg lo1 lo2 lo3 : Bool) (w : World) (hT : Tab w) (hp : p ≤ 113) (h1 : -1048576 ≤ e) (h2 : e ≤ 1048576) (hl4 : l ≤ 384) (hl : ¬ l < p + 2) (cP : ∀ w, Calls Tryd.prog 75 #[.int .u8 f] w fun e w' => e = .returned (.int .i64 (p : Nat)) ∧ Below w.heap.size w w') (cR : ∀ w, Calls Tryd.prog 138 #[.int .u8 f, .int .u8 m] w fun e w' => e = .returned (.bool true) ∧ w = w') (cL : ∀ w, Calls Tryd.prog 101 #[W s] w fun e w' => e = .returned (.int .i64 (l : Nat)) ∧ Below w.heap.size w w') (hs : s < top6) (hs0 : decide (s = 0) = false) (htop : (l : Int) - 1 + e = top) (l1 : -20000 ≤ lo) (l2 : lo ≤ 20000) (t1 : -1100000 ≤ top) (t2 : top ≤ 1100000) (hE : E ≤ 16383) (cE : ∀ w, Calls Tryd.prog 119 #[.int .u8 f] w fun e w' => e = .returned (.int .i64 lo) ∧ Below w.heap.size w w') (cX : ∀ w, Calls Tryd.prog 74 #[.int .u8 f] w fun e w' => e = .returned (.int .i64 (E : Nat)) ∧ Below w.heap.size w w') (hlk : lk ≤ 384) (hov : ¬ (E : Int) < top) (hov2 : ¬ (E : Int) < (lk : Int) - 1 + (max top lo - (p : Int) + 1)) (cG : ∀ w, Tab w → Calls Tryd.prog 140 #[.int .u8 m, RV neg s e true, .int .i64 (max top lo - (p : Int) + 1)] w fun e w' => e = .returned (.tuple #[W k, .bool false]) ∧ Below w.heap.size w w') (cK : ∀ w, Calls Tryd.prog 101 #[W k] w fun e w' => e = .returned (.int .i64 (lk : Nat)) ∧ Below w.heap.size w w') (cOf : ∀ w, Calls Tryd.prog 55 #[.int .u64 (max top lo - (p : Int) + 1 - lo + (p : Int) - 1)] w fun e w' => e = .returned (W n1) ∧ Below w.heap.size w w') (cLf : ∀ w, Calls Tryd.prog 57 #[W n1, .int .i64 ((p : Int) - 1)] w fun e w' => e = .returned (.tuple #[W n2, .bool lo1]) ∧ Below w.heap.size w w') (cAd : ∀ w, Calls Tryd.prog 60 #[W n2, W k] w fun e w' => e = .returned (.tuple #[W n3, .bool lo2]) ∧ Below w.heap.size w w') (cB : ∀ w, Calls Tryd.prog 142 #[W n3] w fun e w' => e = .returned (.tuple #[BV bb, .bool lo3]) ∧ Below w.heap.size w w') (cZ : ∀ w, Calls Tryd.prog 38 #[.int .u8 f, .bool neg] w fun e w' => e = .returned (BV z) ∧ Below w.heap.size w w') (cT : ∀ w, Tab w → Calls Tryd.prog 141 #[.int .u8 f, .int .u8 m, RV neg s e true, .int .i64 top] w fun e w' => e = .returned (.bool false) ∧ Below w.heap.size w w')  :
    Calls Tryd.prog 69 #[.int .u8 f, .int .u8 m, RV neg s e true] w fun e w' => e = .returned (.tuple #[.agg #[.int .u64 (Go.bits .or .u64 (limb bb 1) (limb z 1)), .int .u64 (Go.bits .or .u64 (limb bb 0) (limb z 0))], .int .u8 (Go.bits .or .u8 0 1), .int .i64 0]) ∧ Below w.heap.size w w' := by
  have H := Own.start w
  have HT := Lib.hid hT
  clear hT
  have he2 : decide (e < -1048576) = false := by simp; omega
  have he3 : decide (1048576 < e) = false := by simp; omega
  have hl2 : decide ((l : Int) < (p : Int) + 2) = false := by simp; omega
  have eq1 : ∀ w, (Op.equalIn 10000 35 (.agg (limbs s)) (.agg #[.int .u64 0, .int .u64 0, .int .u64 0, .int .u64 0, .int .u64 0, .int .u64 0])).run Tryd.prog w = .ok false w := fun w => (run_equal_zero w s hs).trans (by rw [hs0])
  have v1 : IntKind.i64.wrap ((l : Int) - 1) = (l : Int) - 1 := IntWalk.i64_in _ (by omega)
  have v2 : IntKind.i64.wrap ((l : Int) - 1 + e) = top := by rw [htop]; exact IntWalk.i64_in _ (by omega)
  clear hs hs0 htop
  have hov3 : decide ((E : Int) < top) = false := by simp; omega
  have hov4 : decide ((E : Int) < (lk : Int) - 1 + (max top lo - (p : Int) + 1)) = false := by simp only [decide_eq_false_iff_not]; exact hov2
  go_enter Tryd.func69, Tryd.ntmps69
  exact walkPcx69
set_option maxHeartbeats 1600000 in
set_option maxRecDepth 100000 in
theorem roundPack_u_t (f m s p l E k lk z n1 n2 n3 bb : Nat) (e top lo : Int) (neg lo1 lo2 lo3 : Bool) (w : World) (hT : Tab w) (hp : p ≤ 113) (h1 : -1048576 ≤ e) (h2 : e ≤ 1048576) (hl4 : l ≤ 384) (hl : ¬ l < p + 2) (cP : ∀ w, Calls Tryd.prog 75 #[.int .u8 f] w fun e w' => e = .returned (.int .i64 (p : Nat)) ∧ Below w.heap.size w w') (cR : ∀ w, Calls Tryd.prog 138 #[.int .u8 f, .int .u8 m] w fun e w' => e = .returned (.bool true) ∧ w = w') (cL : ∀ w, Calls Tryd.prog 101 #[W s] w fun e w' => e = .returned (.int .i64 (l : Nat)) ∧ Below w.heap.size w w') (hs : s < top6) (hs0 : decide (s = 0) = false) (htop : (l : Int) - 1 + e = top) (l1 : -20000 ≤ lo) (l2 : lo ≤ 20000) (t1 : -1100000 ≤ top) (t2 : top ≤ 1100000) (hE : E ≤ 16383) (cE : ∀ w, Calls Tryd.prog 119 #[.int .u8 f] w fun e w' => e = .returned (.int .i64 lo) ∧ Below w.heap.size w w') (cX : ∀ w, Calls Tryd.prog 74 #[.int .u8 f] w fun e w' => e = .returned (.int .i64 (E : Nat)) ∧ Below w.heap.size w w') (hlk : lk ≤ 384) (hov : ¬ (E : Int) < top) (hov2 : ¬ (E : Int) < (lk : Int) - 1 + (max top lo - (p : Int) + 1)) (cG : ∀ w, Tab w → Calls Tryd.prog 140 #[.int .u8 m, RV neg s e true, .int .i64 (max top lo - (p : Int) + 1)] w fun e w' => e = .returned (.tuple #[W k, .bool false]) ∧ Below w.heap.size w w') (cK : ∀ w, Calls Tryd.prog 101 #[W k] w fun e w' => e = .returned (.int .i64 (lk : Nat)) ∧ Below w.heap.size w w') (cOf : ∀ w, Calls Tryd.prog 55 #[.int .u64 (max top lo - (p : Int) + 1 - lo + (p : Int) - 1)] w fun e w' => e = .returned (W n1) ∧ Below w.heap.size w w') (cLf : ∀ w, Calls Tryd.prog 57 #[W n1, .int .i64 ((p : Int) - 1)] w fun e w' => e = .returned (.tuple #[W n2, .bool lo1]) ∧ Below w.heap.size w w') (cAd : ∀ w, Calls Tryd.prog 60 #[W n2, W k] w fun e w' => e = .returned (.tuple #[W n3, .bool lo2]) ∧ Below w.heap.size w w') (cB : ∀ w, Calls Tryd.prog 142 #[W n3] w fun e w' => e = .returned (.tuple #[BV bb, .bool lo3]) ∧ Below w.heap.size w w') (cZ : ∀ w, Calls Tryd.prog 38 #[.int .u8 f, .bool neg] w fun e w' => e = .returned (BV z) ∧ Below w.heap.size w w') (cT : ∀ w, Tab w → Calls Tryd.prog 141 #[.int .u8 f, .int .u8 m, RV neg s e true, .int .i64 top] w fun e w' => e = .returned (.bool true) ∧ Below w.heap.size w w')  :
    Calls Tryd.prog 69 #[.int .u8 f, .int .u8 m, RV neg s e true] w fun e w' => e = .returned (.tuple #[.agg #[.int .u64 (Go.bits .or .u64 (limb bb 1) (limb z 1)), .int .u64 (Go.bits .or .u64 (limb bb 0) (limb z 0))], .int .u8 (Go.bits .or .u8 (Go.bits .or .u8 0 1) 2), .int .i64 0]) ∧ Below w.heap.size w w' := by
  have H := Own.start w
  have HT := Lib.hid hT
  clear hT
  have he2 : decide (e < -1048576) = false := by simp; omega
  have he3 : decide (1048576 < e) = false := by simp; omega
  have hl2 : decide ((l : Int) < (p : Int) + 2) = false := by simp; omega
  have eq1 : ∀ w, (Op.equalIn 10000 35 (.agg (limbs s)) (.agg #[.int .u64 0, .int .u64 0, .int .u64 0, .int .u64 0, .int .u64 0, .int .u64 0])).run Tryd.prog w = .ok false w := fun w => (run_equal_zero w s hs).trans (by rw [hs0])
  have v1 : IntKind.i64.wrap ((l : Int) - 1) = (l : Int) - 1 := IntWalk.i64_in _ (by omega)
  have v2 : IntKind.i64.wrap ((l : Int) - 1 + e) = top := by rw [htop]; exact IntWalk.i64_in _ (by omega)
  clear hs hs0 htop
  have hov3 : decide ((E : Int) < top) = false := by simp; omega
  have hov4 : decide ((E : Int) < (lk : Int) - 1 + (max top lo - (p : Int) + 1)) = false := by simp only [decide_eq_false_iff_not]; exact hov2
  go_enter Tryd.func69, Tryd.ntmps69
  exact walkPcx69
end Go.Proofs.YtjgonofkklpgaaaDoor

namespace Go.Proofs.YtjgonofkklpgaaaDoor
open Go.RowKit
theorem walkPco69 {P : Prop} (h : P := by
  go_wp2_with (first
    | ((with_reducible show wpList _ _ _ (⟨_, .box _ _, _, _, _, _⟩ :: _) _ _); refine H.box rfl rfl (cells_agg _) ?_; (intro g w H; simp only [Act.put, List.setIfInBounds_toArray, List.set_cons_zero, List.set_cons_succ]))
    | ((with_reducible show wpList _ _ _ (⟨_, .alloc 26, _, _, _, _⟩ :: _) _ _); refine H.mk0 rfl rB rfl ?_; (intro g w H; simp only [Act.put, List.setIfInBounds_toArray, List.set_cons_zero, List.set_cons_succ]))
    | ((with_reducible show wpList _ _ _ (⟨_, .alloc 35, _, _, _, _⟩ :: _) _ _); refine H.mk0 rfl rW rfl ?_; (intro g w H; simp only [Act.put, List.setIfInBounds_toArray, List.set_cons_zero, List.set_cons_succ]))
    | ((with_reducible show wpList _ _ _ (⟨_, .load 92 _, _, _, _, _⟩ :: _) _ _); refine H.ld rfl rR rfl rfl (by repeat (first | with_reducible exact List.mem_cons_self | apply List.mem_cons_of_mem)) (by first | with_reducible exact ext_rough _ _ _ _) (by rfl) ?_; simp only [Act.put, List.setIfInBounds_toArray, List.set_cons_zero, List.set_cons_succ])
    | ((with_reducible show wpList _ _ _ (⟨_, .load 3 _, _, _, _, _⟩ :: _) _ _); refine H.ld1 rfl oI rfl rfl (by repeat (first | with_reducible exact List.mem_cons_self | apply List.mem_cons_of_mem)) (by first | with_reducible exact get_rough7 _ _ _ _ | with_reducible exact get_parts7 _ _ _ _ | with_reducible exact get_10 _) ?_; simp only [Act.put, List.setIfInBounds_toArray, List.set_cons_zero, List.set_cons_succ])
    | ((with_reducible show wpList _ _ _ (⟨_, .load 4 _, _, _, _, _⟩ :: _) _ _); refine H.ld1 rfl oT rfl rfl (by repeat (first | with_reducible exact List.mem_cons_self | apply List.mem_cons_of_mem)) (by first | with_reducible exact get_rough0 _ _ _ _ | with_reducible exact get_rough8 _ _ _ _ | with_reducible exact get_10 _) ?_; simp only [Act.put, List.setIfInBounds_toArray, List.set_cons_zero, List.set_cons_succ])
    | ((with_reducible show wpList _ _ _ (⟨_, .load 35 _, _, _, _, _⟩ :: _) _ _); refine H.ld rfl rW rfl rfl (by repeat (first | with_reducible exact List.mem_cons_self | apply List.mem_cons_of_mem)) (by first | with_reducible exact ext_limbs _ | with_reducible exact ext_parts_s _ _ _ _ | with_reducible exact ext_rough_s _ _ _ _ | with_reducible exact ext_parts_f _ _ _ _) (by rfl) ?_; simp only [Act.put, List.setIfInBounds_toArray, List.set_cons_zero, List.set_cons_succ])
    | ((with_reducible show wpList _ _ _ (⟨_, .load 24 _, _, _, _, _⟩ :: _) _ _); refine H.ld1 rfl oU rfl rfl (by repeat (first | with_reducible exact List.mem_cons_self | apply List.mem_cons_of_mem)) (by first | with_reducible exact get_20 _ _ | with_reducible exact get_21 _ _ | with_reducible exact limbs_o0 _ | with_reducible exact limbs_o1 _ | with_reducible exact limbs_o2 _ | with_reducible exact limbs_o3 _ | with_reducible exact limbs_o4 _ | with_reducible exact limbs_o5 _) ?_; simp only [Act.put, List.setIfInBounds_toArray, List.set_cons_zero, List.set_cons_succ])
    | ((with_reducible show wpList _ _ _ (⟨_, .store 26 _ _, _, _, _, _⟩ :: _) _ _); refine H.st rfl rB rfl rfl (cells_agg _) (by repeat (first | with_reducible exact Upd.head _ | apply Upd.tail)) (set_bits _ _ _ _) (by rfl) (by exact one_of rfl) (by first | exact ble_le rfl | (change _ + 1 ≤ 12; omega) | (change _ + 1 ≤ 6; omega)) ?_; (intro w H; simp only [Act.put]))
    | ((with_reducible show wpList _ _ _ (⟨_, .store 35 _ _, _, _, _, _⟩ :: _) _ _); refine H.st rfl rW rfl rfl (cells_agg _) (by repeat (first | with_reducible exact Upd.head _ | apply Upd.tail)) (set_limbs _ _) (by rfl) (by exact one_of rfl) (by first | exact ble_le rfl | (change _ + 1 ≤ 12; omega) | (change _ + 1 ≤ 6; omega)) ?_; (intro w H; simp only [Act.put]))
    | ((with_reducible show Code.wp _ (.region 6 _ true) _ _ _); refine H.heldSub rfl (List.Sublist.refl _) ?_; intro H; refine H.takeRun (List.Sublist.refl _) 0 rfl (by kernel_rfl) (by kernel_rfl) (by kernel_rfl) (fun _ _ _ _ h => h) rfl (by intro w; go_simp; (try with_reducible rfl)) ?_; (try simp only [Act.put, List.setIfInBounds_toArray, List.set_cons_zero, List.set_cons_succ]); (try simp only [List.getElem_toArray, List.getElem_cons_zero, List.getElem_cons_succ]); (first | refine H.tk (List.Sublist.refl _) 1 rfl (by kernel_rfl) (by kernel_rfl) (by kernel_rfl) (fun _ _ _ _ h => h) rfl rW rfl rfl (by repeat (first | with_reducible exact List.mem_cons_self | apply List.mem_cons_of_mem)) (by first | with_reducible exact ext_limbs _ | with_reducible exact ext_parts_s _ _ _ _ | with_reducible exact ext_rough_s _ _ _ _ | with_reducible exact ext_parts_f _ _ _ _) (by rfl) ?_ | refine H.tk1 (List.Sublist.refl _) 1 rfl (by kernel_rfl) (by kernel_rfl) (by kernel_rfl) (fun _ _ _ _ h => h) rfl oI rfl rfl (by repeat (first | with_reducible exact List.mem_cons_self | apply List.mem_cons_of_mem)) (by first | with_reducible exact get_rough7 _ _ _ _ | with_reducible exact get_parts7 _ _ _ _ | with_reducible exact get_10 _) ?_); (try simp only [Act.put, List.setIfInBounds_toArray, List.set_cons_zero, List.set_cons_succ]); (try simp only [List.getElem_toArray, List.getElem_cons_zero, List.getElem_cons_succ]); refine H.takeRun (List.Sublist.refl _) 4 rfl (by kernel_rfl) (by kernel_rfl) (by kernel_rfl) (fun _ _ _ _ h => h) rfl (by intro w; go_simp; (try with_reducible rfl)) ?_; (try simp only [Act.put, List.setIfInBounds_toArray, List.set_cons_zero, List.set_cons_succ]); (try simp only [List.getElem_toArray, List.getElem_cons_zero, List.getElem_cons_succ]); (first | refine H.tk (List.Sublist.refl _) 5 rfl (by kernel_rfl) (by kernel_rfl) (by kernel_rfl) (fun _ _ _ _ h => h) rfl rW rfl rfl (by repeat (first | with_reducible exact List.mem_cons_self | apply List.mem_cons_of_mem)) (by first | with_reducible exact ext_limbs _ | with_reducible exact ext_parts_s _ _ _ _ | with_reducible exact ext_rough_s _ _ _ _ | with_reducible exact ext_parts_f _ _ _ _) (by rfl) ?_ | refine H.tk1 (List.Sublist.refl _) 5 rfl (by kernel_rfl) (by kernel_rfl) (by kernel_rfl) (fun _ _ _ _ h => h) rfl oI rfl rfl (by repeat (first | with_reducible exact List.mem_cons_self | apply List.mem_cons_of_mem)) (by first | with_reducible exact get_rough7 _ _ _ _ | with_reducible exact get_parts7 _ _ _ _ | with_reducible exact get_10 _) ?_); (try simp only [Act.put, List.setIfInBounds_toArray, List.set_cons_zero, List.set_cons_succ]); (try simp only [List.getElem_toArray, List.getElem_cons_zero, List.getElem_cons_succ]); refine held_one (i := 2) (by kernel_rfl) rfl rfl ?_; unfold Oper.wp; go_simp; (go_at_call 101; ((with_reducible refine (cL _).mono ?_); rintro e w ⟨rfl, hb⟩; replace H := H.call hb; clear hb)); refine H.next (List.Sublist.refl _) ?_; (try simp only [Act.put, List.setIfInBounds_toArray, List.set_cons_zero, List.set_cons_succ]); (try simp only [List.getElem_toArray, List.getElem_cons_zero, List.getElem_cons_succ]); refine H.takeRun (List.Sublist.refl _) 3 rfl (by kernel_rfl) (by kernel_rfl) (by kernel_rfl) (fun _ _ _ _ h => h) rfl (by intro w; go_simp; (try with_reducible rfl)) ?_; (try simp only [Act.put, List.setIfInBounds_toArray, List.set_cons_zero, List.set_cons_succ]); (try simp only [List.getElem_toArray, List.getElem_cons_zero, List.getElem_cons_succ]); refine H.takeRun (List.Sublist.refl _) 6 rfl (by kernel_rfl) (by kernel_rfl) (by kernel_rfl) (fun _ _ _ _ h => h) rfl (by intro w; go_simp; (try with_reducible rfl)) ?_; (try simp only [Act.put, List.setIfInBounds_toArray, List.set_cons_zero, List.set_cons_succ]); (try simp only [List.getElem_toArray, List.getElem_cons_zero, List.getElem_cons_succ]); refine H.takeRun (List.Sublist.refl _) 7 rfl (by kernel_rfl) (by kernel_rfl) (by kernel_rfl) (fun _ _ _ _ h => h) rfl (by intro w; go_simp; (try with_reducible rfl)) ?_; (try simp only [Act.put, List.setIfInBounds_toArray, List.set_cons_zero, List.set_cons_succ]); (try simp only [List.getElem_toArray, List.getElem_cons_zero, List.getElem_cons_succ]); refine wpAnyH_done (by kernel_rfl) ?_ _)
    | (go_at_call 75; ((with_reducible refine (cP _).mono ?_); rintro e w ⟨rfl, hb⟩; replace H := H.call hb; clear hb))
    | (go_at_call 138; ((with_reducible refine (cR _).mono ?_); rintro e w' ⟨rfl, rfl⟩))
    | (go_at_call 101; ((with_reducible refine (cL _).mono ?_); rintro e w ⟨rfl, hb⟩; replace H := H.call hb; clear hb))
    | (go_at_call 119; ((with_reducible refine (cE _).mono ?_); rintro e w ⟨rfl, hb⟩; replace H := H.call hb; clear hb))
    | (go_at_call 74; ((with_reducible refine (cX _).mono ?_); rintro e w ⟨rfl, hb⟩; replace H := H.call hb; clear hb))
    | (go_at_call 140; ((with_reducible refine (cG _ (HT.out.below H.below)).mono ?_); rintro e w ⟨rfl, hb⟩; replace H := H.call hb; clear hb))
    | (go_at_call 101; ((with_reducible refine (cK _).mono ?_); rintro e w ⟨rfl, hb⟩; replace H := H.call hb; clear hb))
    | (go_at_call 139; ((with_reducible refine (cO _).mono ?_); rintro e w ⟨rfl, hb⟩; replace H := H.call hb; clear hb))
    )
  all_goals (refine bodyPost_ret (results_ctt rfl rfl (H.res rB (by repeat (first | with_reducible exact List.mem_cons_self | apply List.mem_cons_of_mem)) (by first | with_reducible exact ext_2 _ _) (by rfl))) rfl ⟨?_, H.below⟩; exact rfl)) : P := h
set_option maxHeartbeats 1600000 in
set_option maxRecDepth 100000 in
theorem roundPack_over2_f (f m s p l E k lk o : Nat) (e top lo : Int) (neg ex : Bool) (w : World) (hT : Tab w) (hp : p ≤ 113) (h1 : -1048576 ≤ e) (h2 : e ≤ 1048576) (hl4 : l ≤ 384) (cP : ∀ w, Calls Tryd.prog 75 #[.int .u8 f] w fun e w' => e = .returned (.int .i64 (p : Nat)) ∧ Below w.heap.size w w') (cR : ∀ w, Calls Tryd.prog 138 #[.int .u8 f, .int .u8 m] w fun e w' => e = .returned (.bool true) ∧ w = w') (cL : ∀ w, Calls Tryd.prog 101 #[W s] w fun e w' => e = .returned (.int .i64 (l : Nat)) ∧ Below w.heap.size w w') (hs : s < top6) (hs0 : decide (s = 0) = false) (htop : (l : Int) - 1 + e = top) (l1 : -20000 ≤ lo) (l2 : lo ≤ 20000) (t1 : -1100000 ≤ top) (t2 : top ≤ 1100000) (hE : E ≤ 16383) (cE : ∀ w, Calls Tryd.prog 119 #[.int .u8 f] w fun e w' => e = .returned (.int .i64 lo) ∧ Below w.heap.size w w') (cX : ∀ w, Calls Tryd.prog 74 #[.int .u8 f] w fun e w' => e = .returned (.int .i64 (E : Nat)) ∧ Below w.heap.size w w') (hlk : lk ≤ 384) (hov : ¬ (E : Int) < top) (hov2 : (E : Int) < (lk : Int) - 1 + (max top lo - (p : Int) + 1)) (cG : ∀ w, Tab w → Calls Tryd.prog 140 #[.int .u8 m, RV neg s e false, .int .i64 (max top lo - (p : Int) + 1)] w fun e w' => e = .returned (.tuple #[W k, .bool ex]) ∧ Below w.heap.size w w') (cK : ∀ w, Calls Tryd.prog 101 #[W k] w fun e w' => e = .returned (.int .i64 (lk : Nat)) ∧ Below w.heap.size w w') (cO : ∀ w, Calls Tryd.prog 139 #[.int .u8 f, .int .u8 m, .bool neg] w fun e w' => e = .returned (.tuple #[BV o, .int .u8 5, .int .i64 0]) ∧ Below w.heap.size w w')  :
    Calls Tryd.prog 69 #[.int .u8 f, .int .u8 m, RV neg s e false] w fun e w' => e = .returned (.tuple #[BV o, .int .u8 5, .int .i64 0]) ∧ Below w.heap.size w w' := by
  have H := Own.start w
  have HT := Lib.hid hT
  clear hT
  have he2 : decide (e < -1048576) = false := by simp; omega
  have he3 : decide (1048576 < e) = false := by simp; omega
  have eq1 : ∀ w, (Op.equalIn 10000 35 (.agg (limbs s)) (.agg #[.int .u64 0, .int .u64 0, .int .u64 0, .int .u64 0, .int .u64 0, .int .u64 0])).run Tryd.prog w = .ok false w := fun w => (run_equal_zero w s hs).trans (by rw [hs0])
  have v1 : IntKind.i64.wrap ((l : Int) - 1) = (l : Int) - 1 := IntWalk.i64_in _ (by omega)
  have v2 : IntKind.i64.wrap ((l : Int) - 1 + e) = top := by rw [htop]; exact IntWalk.i64_in _ (by omega)
  clear hs hs0 htop
  have hov3 : decide ((E : Int) < top) = false := by simp; omega
  have hov4 : decide ((E : Int) < (lk : Int) - 1 + (max top lo - (p : Int) + 1)) = true := by simp only [decide_eq_true_eq]; exact hov2
  go_enter Tryd.func69, Tryd.ntmps69
  exact walkPco69
set_option maxHeartbeats 1600000 in
set_option maxRecDepth 100000 in
theorem roundPack_over2_t (f m s p l E k lk o : Nat) (e top lo : Int) (neg ex : Bool) (w : World) (hT : Tab w) (hp : p ≤ 113) (h1 : -1048576 ≤ e) (h2 : e ≤ 1048576) (hl4 : l ≤ 384) (hl : ¬ l < p + 2) (cP : ∀ w, Calls Tryd.prog 75 #[.int .u8 f] w fun e w' => e = .returned (.int .i64 (p : Nat)) ∧ Below w.heap.size w w') (cR : ∀ w, Calls Tryd.prog 138 #[.int .u8 f, .int .u8 m] w fun e w' => e = .returned (.bool true) ∧ w = w') (cL : ∀ w, Calls Tryd.prog 101 #[W s] w fun e w' => e = .returned (.int .i64 (l : Nat)) ∧ Below w.heap.size w w') (hs : s < top6) (hs0 : decide (s = 0) = false) (htop : (l : Int) - 1 + e = top) (l1 : -20000 ≤ lo) (l2 : lo ≤ 20000) (t1 : -1100000 ≤ top) (t2 : top ≤ 1100000) (hE : E ≤ 16383) (cE : ∀ w, Calls Tryd.prog 119 #[.int .u8 f] w fun e w' => e = .returned (.int .i64 lo) ∧ Below w.heap.size w w') (cX : ∀ w, Calls Tryd.prog 74 #[.int .u8 f] w fun e w' => e = .returned (.int .i64 (E : Nat)) ∧ Below w.heap.size w w') (hlk : lk ≤ 384) (hov : ¬ (E : Int) < top) (hov2 : (E : Int) < (lk : Int) - 1 + (max top lo - (p : Int) + 1)) (cG : ∀ w, Tab w → Calls Tryd.prog 140 #[.int .u8 m, RV neg s e true, .int .i64 (max top lo - (p : Int) + 1)] w fun e w' => e = .returned (.tuple #[W k, .bool ex]) ∧ Below w.heap.size w w') (cK : ∀ w, Calls Tryd.prog 101 #[W k] w fun e w' => e = .returned (.int .i64 (lk : Nat)) ∧ Below w.heap.size w w') (cO : ∀ w, Calls Tryd.prog 139 #[.int .u8 f, .int .u8 m, .bool neg] w fun e w' => e = .returned (.tuple #[BV o, .int .u8 5, .int .i64 0]) ∧ Below w.heap.size w w')  :
    Calls Tryd.prog 69 #[.int .u8 f, .int .u8 m, RV neg s e true] w fun e w' => e = .returned (.tuple #[BV o, .int .u8 5, .int .i64 0]) ∧ Below w.heap.size w w' := by
  have H := Own.start w
  have HT := Lib.hid hT
  clear hT
  have he2 : decide (e < -1048576) = false := by simp; omega
  have he3 : decide (1048576 < e) = false := by simp; omega
  have hl2 : decide ((l : Int) < (p : Int) + 2) = false := by simp; omega
  have eq1 : ∀ w, (Op.equalIn 10000 35 (.agg (limbs s)) (.agg #[.int .u64 0, .int .u64 0, .int .u64 0, .int .u64 0, .int .u64 0, .int .u64 0])).run Tryd.prog w = .ok false w := fun w => (run_equal_zero w s hs).trans (by rw [hs0])
  have v1 : IntKind.i64.wrap ((l : Int) - 1) = (l : Int) - 1 := IntWalk.i64_in _ (by omega)
  have v2 : IntKind.i64.wrap ((l : Int) - 1 + e) = top := by rw [htop]; exact IntWalk.i64_in _ (by omega)
  clear hs hs0 htop
  have hov3 : decide ((E : Int) < top) = false := by simp; omega
  have hov4 : decide ((E : Int) < (lk : Int) - 1 + (max top lo - (p : Int) + 1)) = true := by simp only [decide_eq_true_eq]; exact hov2
  go_enter Tryd.func69, Tryd.ntmps69
  exact walkPco69
end Go.Proofs.YtjgonofkklpgaaaDoor

namespace Go.Proofs.YtjgonofkklpgaaaDoor
theorem pF_113 (f : Nat) : pF f ≤ 113 := by
  rcases forms f with rfl | rfl | rfl | rfl | h
  · decide
  · decide
  · decide
  · decide
  · rw [(wF_big f h).2.1]; decide
theorem lt_pwr (T b c x : Nat) (h : T = 2 ^ c) (hb : b ≤ c) (hx : x < 2 ^ b) : x < T := by rw [h]; exact Nat.lt_of_lt_of_le hx (Nat.pow_le_pow_right (by decide) hb)
theorem gridN_le (m s p : Nat) (neg mo : Bool) (e at_ : Int) (h : (lenN s : Int) + e - at_ ≤ p) : (gridN m neg s e mo at_).1 ≤ 2 ^ p := by
  have hs := lenN_lt s
  unfold gridN
  by_cases hn : at_ ≤ e
  · rw [if_pos hn]
    obtain ⟨d, hd⟩ : ∃ d, d = (e - at_).toNat := ⟨_, rfl⟩
    rw [← hd]
    have h1 : s * 2 ^ d ≤ 2 ^ lenN s * 2 ^ d := Nat.mul_le_mul_right _ (Nat.le_of_lt hs)
    rw [← Nat.pow_add] at h1
    exact Nat.le_trans h1 (Nat.pow_le_pow_right (by decide) (by omega))
  · rw [if_neg hn]
    obtain ⟨d, hd⟩ : ∃ d, d = (at_ - e).toNat := ⟨_, rfl⟩
    rw [← hd]
    have h1 : s < 2 ^ (p + d) := Nat.lt_of_lt_of_le hs (Nat.pow_le_pow_right (by decide) (by omega))
    rw [Nat.pow_add] at h1
    have h2 : s / 2 ^ d < 2 ^ p := by
      rw [Nat.div_lt_iff_lt_mul (two_pos d)]; exact h1
    have h3 : ∀ b : Bool, s / 2 ^ d + cond b 1 0 ≤ 2 ^ p := by intro b; cases b <;> simp only [cond_true, cond_false] <;> omega
    exact h3 _
theorem lt_top114 (x p : Nat) (hp : p ≤ 113) (h : x ≤ 2 ^ p) : x < top6 :=
  lt_pwr top6 (p + 1) (64 * 6) x top6.eq_1 (by omega) (Nat.lt_of_le_of_lt h (Nat.pow_lt_pow_right (by decide) (by omega)))
theorem lenN_le_of (x p : Nat) (h : x ≤ 2 ^ p) : lenN x ≤ p + 1 := (lenN_le x (p + 1)).2 (Nat.lt_of_le_of_lt h (Nat.pow_lt_pow_right (by decide) (by omega)))
theorem enc_lt (f k : Nat) (d : Nat) (hf : f < 4) (hk : k ≤ 2 ^ pF f) (hd : d + 1 ≤ 2 * eF f) : d * 2 ^ (pF f - 1) + k < 2 ^ (wF f - 1) := by
  have hK := formK f hf
  rw [hK.2.1, Nat.pow_add, hK.2.2.1, Nat.mul_comm (2 ^ (pF f - 1))]
  have h2 : 2 ^ pF f = 2 * 2 ^ (pF f - 1) := by
    rw [show pF f = (pF f - 1) + 1 by omega, Nat.pow_succ, Nat.add_sub_cancel]; omega
  have := two_pos (pF f - 1)
  have h3 : (d + 3) * 2 ^ (pF f - 1) ≤ (2 * eF f + 2) * 2 ^ (pF f - 1) := Nat.mul_le_mul_right _ (by omega)
  rw [Nat.add_mul] at h3
  omega
end Go.Proofs.YtjgonofkklpgaaaDoor

namespace Go.Proofs.YtjgonofkklpgaaaDoor
open Go.RowKit
theorem roundTiny_any (f m s : Nat) (e top : Int) (neg mo : Bool) (w : World) (hT : Tab w) (hf : f < 4) (hm : m < 5) (hs : s < top6) (hs0 : s ≠ 0) (h1 : -1048576 ≤ e) (h2 : e ≤ 1048576) (ht : (lenN s : Int) - 1 + e = top) :
    Calls Tryd.prog 141 #[.int .u8 f, .int .u8 m, RV neg s e mo, .int .i64 top] w fun e' w' => e' = .returned (.bool (tinyB f m neg s e mo top)) ∧ Below w.heap.size w w' := by
  have hK := formK f hf
  have hp := pF_113 f
  have hl := lenN_pos s hs0
  have hl4 : lenN s ≤ 384 := (lenN_le s 384).2 (by rw [show 384 = 64 * 6 from rfl, ← top6.eq_1]; exact hs)
  have cE := fun w => shapeEmin_any f w (by omega)
  have cP := fun w => shapePrecision_any f w (by omega)
  unfold tinyB
  by_cases hq : top = eminI f - 1
  · rw [if_pos hq]
    have hk := gridN_le m s (pF f) neg mo e (top - pF f + 1) (by omega)
    have cG := fun w hT => roundGrid_any m s e (top - pF f + 1) neg mo w hT (by omega) hs (by omega) (by omega) (by omega) (by omega) (by omega)
    have cK := fun w => wideLen_any (gridN m neg s e mo (top - pF f + 1)).1 w (lt_top114 _ _ hp hk)
    exact roundTiny_eq f m s (pF f) _ _ e top (eminI f) _ neg mo _ w hT hp (by omega) (by omega) (by omega) (by omega) (by rw [hq, beq_self_eq_true]) rfl cE cP cG cK
  · rw [if_neg hq]
    exact roundTiny_ne f m s (pF f) e top (eminI f) neg mo w hT hp (by omega) (by omega) (by omega) (by omega) (by rw [beq_eq_false_iff_ne]; exact hq) cE cP
theorem roundPack_any (f m s : Nat) (e : Int) (neg mo : Bool) (w : World) (hT : Tab w) (hf : f < 256) (hm : m < 256) (hs : s < top6) :
    Calls Tryd.prog 69 #[.int .u8 f, .int .u8 m, RV neg s e mo] w fun e' w' => e' = .returned (.tuple #[BV (packN f m neg s e mo).1, .int .u8 ((packN f m neg s e mo).2.1 : Nat), .int .i64 (packN f m neg s e mo).2.2]) ∧ Below w.heap.size w w' := by
  have hp := pF_113 f
  have hl4 : lenN s ≤ 384 := (lenN_le s 384).2 (by rw [show 384 = 64 * 6 from rfl, ← top6.eq_1]; exact hs)
  have cP := fun w => shapePrecision_any f w hf
  have cR := fun w => roundRight_any f m w hf hm
  have cL := fun w => wideLen_any s w hs
  have cZ := fun w => shapeZero_any f neg w hf
  by_cases hr : (decide (f < 4) && decide (m < 5)) = true
  case neg =>
    have hr' : (decide (f < 4) && decide (m < 5)) = false := by cases h : (decide (f < 4) && decide (m < 5)) <;> simp_all
    have hN : packN f m neg s e mo = (0, 0, 2) := by unfold packN packOk; rw [hr']; simp only [Bool.false_and, Bool.false_eq_true, if_false]
    rw [hN]
    rw [hr'] at cR
    exact roundPack_right f m s _ e neg mo w hp cP cR
  rw [hr] at cR
  have hf4 : f < 4 := by simp only [Bool.and_eq_true, decide_eq_true_eq] at hr; exact hr.1
  have hm5 : m < 5 := by simp only [Bool.and_eq_true, decide_eq_true_eq] at hr; exact hr.2
  by_cases he1 : e < -1048576
  · have hN : packN f m neg s e mo = (0, 0, 2) := by unfold packN packOk; rw [decide_eq_false (show ¬ -1048576 ≤ e by omega)]; simp only [Bool.and_false, Bool.false_and, Bool.false_eq_true, if_false]
    rw [hN]
    exact roundPack_low f m s _ e neg mo w hp he1 cP cR
  by_cases he2 : 1048576 < e
  · have hN : packN f m neg s e mo = (0, 0, 2) := by unfold packN packOk; rw [decide_eq_false (show ¬ e ≤ 1048576 by omega)]; simp only [Bool.and_false, Bool.false_and, Bool.false_eq_true, if_false]
    rw [hN]
    exact roundPack_high f m s _ e neg mo w hp he2 cP cR
  by_cases hmo : (mo && decide (lenN s < pF f + 2)) = true
  · have hN : packN f m neg s e mo = (0, 0, 2) := by unfold packN packOk; rw [hmo]; simp only [Bool.not_true, Bool.and_false, Bool.false_eq_true, if_false]
    rw [hN]
    have ht : mo = true := by cases mo <;> simp_all
    subst ht
    exact roundPack_more f m s (pF f) (lenN s) e neg w hp (by omega) (by omega) (by simpa using hmo) hl4 cP cR cL
  have hmo' : (mo && decide (lenN s < pF f + 2)) = false := by cases h : (mo && decide (lenN s < pF f + 2)) <;> simp_all
  have hok : packOk f m s e mo = true := by
    unfold packOk
    rw [hr, hmo', decide_eq_true (show -1048576 ≤ e by omega), decide_eq_true (show e ≤ 1048576 by omega)]; rfl
  have hl : mo = true → ¬ lenN s < pF f + 2 := by intro ht; subst ht; simpa using hmo'
  by_cases hz : s = 0
  · have hN : packN f m neg s e mo = (zeroN f neg, 0, 0) := by unfold packN; rw [if_pos hok, if_pos hz]
    rw [hN]
    cases mo with
    | false => exact roundPack_zero_f f m s (pF f) (lenN s) _ e neg w hT hp (by omega) (by omega) hl4 cP cR cL hs (decide_eq_true hz) cZ
    | true => exact roundPack_zero_t f m s (pF f) (lenN s) _ e neg w hT hp (by omega) (by omega) hl4 (hl rfl) cP cR cL hs (decide_eq_true hz) cZ
  have hN : packN f m neg s e mo = ((packB f m neg s e mo).1, (packB f m neg s e mo).2, 0) := by unfold packN; rw [if_pos hok, if_neg hz]
  rw [hN]
  have hK := formK f hf4
  have hl1 := lenN_pos s hz
  have cE := fun w => shapeEmin_any f w hf
  have cX := fun w => shapeEmax_any f w hf
  have cO := fun w => roundOver_any f m neg w hf4 hm5
  obtain ⟨top, htop⟩ : ∃ top, (lenN s : Int) - 1 + e = top := ⟨_, rfl⟩
  have hz' := decide_eq_false hz
  unfold packB
  rw [htop]
  by_cases hov : (eF f : Int) < top
  · rw [if_pos hov]
    cases mo with
    | false => exact roundPack_over_f f m s (pF f) (lenN s) (eF f) _ e top (eminI f) neg w hT hp (by omega) (by omega) hl4 cP cR cL hs hz' htop (by omega) (by omega) (by omega) (by omega) (by omega) cE cX hov cO
    | true => exact roundPack_over_t f m s (pF f) (lenN s) (eF f) _ e top (eminI f) neg w hT hp (by omega) (by omega) hl4 (hl rfl) cP cR cL hs hz' htop (by omega) (by omega) (by omega) (by omega) (by omega) cE cX hov cO
  rw [if_neg hov]
  have hat : atN f top = max top (eminI f) - (pF f : Int) + 1 := rfl
  have hk := gridN_le m s (pF f) neg mo e (atN f top) (by rw [hat]; omega)
  have cG := fun w hT => roundGrid_any m s e (atN f top) neg mo w hT hm hs (by omega) (by omega) (by rw [hat]; omega) (by rw [hat]; omega) (by rw [hat]; omega)
  have cT := fun w hT => roundTiny_any f m s e top neg mo w hT hf4 hm5 hs hz (by omega) (by omega) htop
  obtain ⟨k, ex, hg⟩ : ∃ k ex, gridN m neg s e mo (atN f top) = (k, ex) := ⟨_, _, rfl⟩
  rw [hg] at cG hk ⊢
  rw [hat] at cG
  have hk' : k ≤ 2 ^ pF f := hk
  have hkt := lt_top114 k _ hp hk'
  have hkl := lenN_le_of k _ hk'
  have cK := fun w => wideLen_any k w hkt
  by_cases hov2 : (eF f : Int) < lenN k - 1 + atN f top
  · rw [if_pos hov2]
    rw [hat] at hov2
    cases mo with
    | false => exact roundPack_over2_f f m s (pF f) (lenN s) (eF f) k (lenN k) _ e top (eminI f) neg ex w hT hp (by omega) (by omega) hl4 cP cR cL hs hz' htop (by omega) (by omega) (by omega) (by omega) (by omega) cE cX (by omega) hov hov2 cG cK cO
    | true => exact roundPack_over2_t f m s (pF f) (lenN s) (eF f) k (lenN k) _ e top (eminI f) neg ex w hT hp (by omega) (by omega) hl4 (hl rfl) cP cR cL hs hz' htop (by omega) (by omega) (by omega) (by omega) (by omega) cE cX (by omega) hov hov2 cG cK cO
  rw [if_neg hov2]
  rw [hat] at hov2
  obtain ⟨d, hd⟩ : ∃ d : Nat, d = (max top (eminI f) - eminI f).toNat := ⟨_, rfl⟩
  have hd1 : max top (eminI f) - (pF f : Int) + 1 - eminI f + (pF f : Int) - 1 = (d : Int) := by omega
  have hd2 : (atN f top - eminI f + pF f - 1).toNat = d := by rw [hat]; omega
  have hen := enc_lt f k d hf4 hk' (by omega)
  have cOf := fun w => wideOf_any d w (by omega)
  rw [← hd1] at cOf
  have cLf := fun w => wideLeft_any d ((pF f : Int) - 1) w (lt_top_bits d (by omega))
  have hcl : clip ((pF f : Int) - 1) = pF f - 1 := by unfold clip; omega
  rw [hcl] at cLf
  have cAd := fun w => wideAdd_any (d * 2 ^ (pF f - 1)) k w
  have hw : 2 ^ (wF f - 1) ≤ 2 ^ (64 * 2) := Nat.pow_le_pow_right (by decide) (by rcases forms f with rfl | rfl | rfl | rfl | h <;> first | decide | omega)
  have cB := fun w => wideToBits_any (d * 2 ^ (pF f - 1) + k) w (Nat.lt_of_lt_of_le hen hw)
  have hzn : zeroN f neg = signN f neg := by unfold zeroN; rw [decide_eq_true hf4, cond_true]
  have hor : (d * 2 ^ (pF f - 1) + k) ||| zeroN f neg = encN f neg k (atN f top) := by
    rw [hzn, or_sign f _ neg hen]; unfold encN; rw [hd2]
  have fin : ∀ fl : Value, Ending.returned (.tuple #[.agg #[.int .u64 (Go.bits .or .u64 (limb (d * 2 ^ (pF f - 1) + k) 1) (limb (zeroN f neg) 1)), .int .u64 (Go.bits .or .u64 (limb (d * 2 ^ (pF f - 1) + k) 0) (limb (zeroN f neg) 0))], fl, .int .i64 0]) = .returned (.tuple #[BV (encN f neg k (atN f top)), fl, .int .i64 0]) := by
    intro fl
    have h := pair_or (d * 2 ^ (pF f - 1) + k) (zeroN f neg)
    rw [hor] at h
    injection h with h
    rw [h]
  cases ex with
  | true =>
    simp only [cond_true]
    cases mo with
    | false =>
      refine (roundPack_x_f f m s (pF f) (lenN s) (eF f) k (lenN k) _ d _ _ _ e top (eminI f) neg _ _ _ w hT hp (by omega) (by omega) hl4 cP cR cL hs hz' htop (by omega) (by omega) (by omega) (by omega) (by omega) cE cX (by omega) hov hov2 cG cK cOf cLf cAd cB cZ).mono ?_
      intro e' w' ⟨he, hb⟩
      exact ⟨he.trans (fin _), hb⟩
    | true =>
      refine (roundPack_x_t f m s (pF f) (lenN s) (eF f) k (lenN k) _ d _ _ _ e top (eminI f) neg _ _ _ w hT hp (by omega) (by omega) hl4 (hl rfl) cP cR cL hs hz' htop (by omega) (by omega) (by omega) (by omega) (by omega) cE cX (by omega) hov hov2 cG cK cOf cLf cAd cB cZ).mono ?_
      intro e' w' ⟨he, hb⟩
      exact ⟨he.trans (fin _), hb⟩
  | false =>
    simp only [cond_false]
    cases hty : tinyB f m neg s e mo top with
    | false =>
      rw [hty] at cT
      simp only [cond_false]
      cases mo with
      | false =>
        refine (roundPack_i_f f m s (pF f) (lenN s) (eF f) k (lenN k) _ d _ _ _ e top (eminI f) neg _ _ _ w hT hp (by omega) (by omega) hl4 cP cR cL hs hz' htop (by omega) (by omega) (by omega) (by omega) (by omega) cE cX (by omega) hov hov2 cG cK cOf cLf cAd cB cZ cT).mono ?_
        intro e' w' ⟨he, hb⟩
        exact ⟨he.trans (fin _), hb⟩
      | true =>
        refine (roundPack_i_t f m s (pF f) (lenN s) (eF f) k (lenN k) _ d _ _ _ e top (eminI f) neg _ _ _ w hT hp (by omega) (by omega) hl4 (hl rfl) cP cR cL hs hz' htop (by omega) (by omega) (by omega) (by omega) (by omega) cE cX (by omega) hov hov2 cG cK cOf cLf cAd cB cZ cT).mono ?_
        intro e' w' ⟨he, hb⟩
        exact ⟨he.trans (fin _), hb⟩
    | true =>
      rw [hty] at cT
      simp only [cond_true]
      cases mo with
      | false =>
        refine (roundPack_u_f f m s (pF f) (lenN s) (eF f) k (lenN k) _ d _ _ _ e top (eminI f) neg _ _ _ w hT hp (by omega) (by omega) hl4 cP cR cL hs hz' htop (by omega) (by omega) (by omega) (by omega) (by omega) cE cX (by omega) hov hov2 cG cK cOf cLf cAd cB cZ cT).mono ?_
        intro e' w' ⟨he, hb⟩
        exact ⟨he.trans (fin _), hb⟩
      | true =>
        refine (roundPack_u_t f m s (pF f) (lenN s) (eF f) k (lenN k) _ d _ _ _ e top (eminI f) neg _ _ _ w hT hp (by omega) (by omega) hl4 (hl rfl) cP cR cL hs hz' htop (by omega) (by omega) (by omega) (by omega) (by omega) cE cX (by omega) hov hov2 cG cK cOf cLf cAd cB cZ cT).mono ?_
        intro e' w' ⟨he, hb⟩
        exact ⟨he.trans (fin _), hb⟩
end Go.Proofs.YtjgonofkklpgaaaDoor

namespace Go.Proofs.YtjgonofkklpgaaaDoor
/-- How many bits the dividend is moved up. -/
def divSh (f a b : Nat) : Nat := (max ((pF f : Int) + 3 + lenN (sigN f b) - lenN (sigN f a)) 0).toNat
def divR (f m a b : Nat) : Nat × Nat :=
  if (nanB (clsN f a) || nanB (clsN f b)) = true then canonR f (clsN f a) (clsN f b)
  else if (infB (clsN f a) && infB (clsN f b) || zerB (clsN f a) && zerB (clsN f b)) = true then (nanN f, 16)
  else if infB (clsN f a) = true then (infN f (belowN4 (clsN f a) != belowN4 (clsN f b)), 0)
  else if (infB (clsN f b) || zerB (clsN f a)) = true then (zeroN f (belowN4 (clsN f a) != belowN4 (clsN f b)), 0)
  else if zerB (clsN f b) = true then (infN f (belowN4 (clsN f a) != belowN4 (clsN f b)), 8)
  else packB f m (belowN4 (clsN f a) != belowN4 (clsN f b)) (sigN f a * 2 ^ divSh f a b / sigN f b) (xpN f a - xpN f b - divSh f a b) (!decide (sigN f a * 2 ^ divSh f a b % sigN f b = 0))
theorem fin_flags (f b : Nat) (h : Fin0 f b) : nanB (clsN f b) = false ∧ infB (clsN f b) = false ∧ zerB (clsN f b) = false := by
  rcases h with c | c | c | c <;> rw [c] <;> exact ⟨rfl, rfl, rfl⟩
theorem zer_flags (f b : Nat) (h : clsN f b = 3 ∨ clsN f b = 4) : nanB (clsN f b) = false ∧ infB (clsN f b) = false ∧ zerB (clsN f b) = true := by
  rcases h with c | c <;> rw [c] <;> exact ⟨rfl, rfl, rfl⟩
theorem inf_flags (f b : Nat) (h : clsN f b = 0 ∨ clsN f b = 7) : nanB (clsN f b) = false ∧ infB (clsN f b) = true ∧ zerB (clsN f b) = false := by
  rcases h with c | c <;> rw [c] <;> exact ⟨rfl, rfl, rfl⟩
/-- By 1. -/
theorem div_one (f m a : Nat) (hf : f < 4) (h : fitsB f a = true) (hc : Fin0 f a ∨ clsN f a = 3 ∨ clsN f a = 4) : divR f m a (oneN f false) = (a, 0) := by
  obtain ⟨o1, o2, o3, o4⟩ := one_parts f false hf
  have ho : belowN4 (clsN f (oneN f false)) = false := by rw [o2]; rfl
  have hon : nanB (clsN f (oneN f false)) = false ∧ infB (clsN f (oneN f false)) = false ∧ zerB (clsN f (oneN f false)) = false := by rw [o2]; exact ⟨rfl, rfl, rfl⟩
  have h8 : ¬ 8 ≤ clsN f a := by unfold Fin0 at hc; omega
  have hbn := below_neg f a h8
  unfold divR
  rw [hon.1, hon.2.1, hon.2.2, ho, hbn, bne_false]
  rcases hc with hc | hc
  · obtain ⟨e1, e2, e3⟩ := fin_flags f a hc
    obtain ⟨hcan, henc⟩ := can_of f a h hc
    rw [e1, e2, e3]
    simp only [Bool.or_self, Bool.false_eq_true, if_false, Bool.and_self]
    rw [o3, o4]
    obtain ⟨h1, h2, h3, h4, h5, h6, h7, h8'⟩ := formK f hf
    have hl := (lenN_le _ _).2 hcan.lt
    have hlp := lenN_pos _ hcan.pos
    have hlo : lenN (2 ^ (pF f - 1)) = pF f := lenN_unique _ _ (Nat.le_refl _) (Nat.pow_lt_pow_right (by decide) (by omega)) (by omega)
    obtain ⟨k, hk⟩ : ∃ k, divSh f a (oneN f false) = k + (pF f - 1) := ⟨divSh f a (oneN f false) - (pF f - 1), by unfold divSh; rw [o3, hlo]; omega⟩
    rw [hk, Nat.pow_add, ← Nat.mul_assoc, Nat.mul_div_cancel _ (two_pos _), Nat.mul_mod_left, decide_eq_true rfl]
    rw [Bool.not_true, pack_exact f m (sigN f a) _ (xpN f a) _ (negN f a) hf hcan (Or.inl ⟨by omega, by rw [show (xpN f a - (xpN f a - (1 - (pF f : Int)) - ((k + (pF f - 1) : Nat) : Int))).toNat = k by omega]⟩), henc]
  · obtain ⟨e1, e2, e3⟩ := zer_flags f a hc
    rw [e1, e2, e3]
    simp only [Bool.or_self, Bool.false_eq_true, if_false, Bool.and_self, Bool.and_false, Bool.or_true, if_true]
    rw [zero_of f a h hc]
end Go.Proofs.YtjgonofkklpgaaaDoor

namespace Go.Proofs.YtjgonofkklpgaaaDoor
theorem or_one (a : Nat) : a ||| 1 = a / 2 * 2 + 1 := by
  have h1 : a = 2 * (a / 2) + a % 2 := (Nat.div_add_mod a 2).symm
  have h2 : a / 2 * 2 ||| 1 = a / 2 * 2 + 1 := by
    have := Nat.two_pow_add_eq_or_of_lt (i := 1) (b := 1) (by decide) (a / 2)
    rw [Nat.pow_one, Nat.mul_comm] at this; exact this.symm
  have : a % 2 = 0 ∨ a % 2 = 1 := by omega
  rcases this with h | h
  · have e : a / 2 * 2 = a := by omega
    rw [← h2, e]
  · have e : a = a / 2 * 2 + 1 := by omega
    rw [← h2]
    conv => lhs; rw [e, ← h2]
    rw [Nat.or_assoc, Nat.or_self]
theorem or_one_div (a n : Nat) (hn : 1 ≤ n) : (a ||| 1) / 2 ^ n = a / 2 ^ n := by
  obtain ⟨k, rfl⟩ : ∃ k, n = k + 1 := ⟨n - 1, by omega⟩
  rw [or_one, Nat.pow_succ, Nat.mul_comm (2 ^ k), ← Nat.div_div_eq_div_mul, ← Nat.div_div_eq_div_mul]
  rw [show (a / 2 * 2 + 1) / 2 = a / 2 by omega]
theorem or_one_mod (a n : Nat) (hn : 1 ≤ n) : (a ||| 1) % 2 ^ n = a % 2 ^ n ||| 1 := by
  have h1 := Nat.div_add_mod (a ||| 1) (2 ^ n)
  have h2 := Nat.div_add_mod a (2 ^ n)
  rw [or_one_div a n hn] at h1
  rw [or_one] at h1 ⊢
  rw [or_one]
  obtain ⟨k, rfl⟩ : ∃ k, n = k + 1 := ⟨n - 1, by omega⟩
  have hm : a % 2 ^ (k + 1) / 2 * 2 + a % 2 = a % 2 ^ (k + 1) := by
    have : a % 2 ^ (k + 1) % 2 = a % 2 := Nat.mod_mod_of_dvd a (by rw [Nat.pow_succ]; exact Nat.dvd_mul_left _ _)
    omega
  omega
/-- What was lost, kept as one bit. -/
theorem pack_sticky (f m : Nat) (neg : Bool) (s : Nat) (e : Int) (hf : f < 4) (hl : pF f + 2 ≤ lenN s) :
    packB f m neg s e true = packB f m neg (s ||| 1) e false := by
  obtain ⟨h1, h2, h3, h4, h5, h6, h7, h8⟩ := formK f hf
  have hs0 : s ≠ 0 := by intro h; rw [h, lenN_zero] at hl; omega
  have hlen : lenN (s ||| 1) = lenN s := by
    have hge := lenN_ge s hs0
    have hlt := lenN_lt s
    obtain ⟨k, hk⟩ : ∃ k, lenN s = k + 2 := ⟨lenN s - 2, by omega⟩
    rw [hk] at hge hlt ⊢
    rw [show k + 2 - 1 = k + 1 by omega, Nat.pow_succ] at hge
    rw [show 2 ^ (k + 2) = 2 ^ (k + 1) * 2 from Nat.pow_succ _ _, Nat.pow_succ] at hlt
    apply lenN_unique
    · rw [show k + 2 - 1 = k + 1 by omega, Nat.pow_succ, or_one]; omega
    · rw [show 2 ^ (k + 2) = 2 ^ (k + 1) * 2 from Nat.pow_succ _ _, Nat.pow_succ, or_one]; omega
    · omega
  have hg : ∀ at_ : Int, e + 2 ≤ at_ → gridN m neg s e true at_ = gridN m neg (s ||| 1) e false at_ := by
    intro at_ hat
    obtain ⟨n, hn⟩ : ∃ n, (at_ - e).toNat = n := ⟨_, rfl⟩
    obtain ⟨k, rfl⟩ : ∃ k, n = k + 2 := ⟨n - 2, by omega⟩
    unfold gridN
    rw [if_neg (by omega), if_neg (by omega), hn, or_one_div s _ (by omega)]
    have hmod := or_one_mod s (k + 2) (by omega)
    have hex : (decide ((s ||| 1) % 2 ^ (k + 2) = 0) && !false) = (decide (s % 2 ^ (k + 2) = 0) && !true) := by
      rw [hmod, or_one]; simp
    have hhalf : (cond (false && decide (halfN (s ||| 1) (k + 2) = 0)) 1 (halfN (s ||| 1) (k + 2)) : Int) = cond (true && decide (halfN s (k + 2) = 0)) 1 (halfN s (k + 2)) := by
      rw [Bool.false_and, Bool.true_and]
      show halfN (s ||| 1) (k + 1 + 1) = cond (decide (halfN s (k + 1 + 1) = 0)) 1 (halfN s (k + 1 + 1))
      rw [halfN_pos, halfN_pos, show k + 1 + 1 = k + 2 from rfl, hmod, or_one]
      have hev : 2 ^ (k + 1) = 2 * 2 ^ k := by rw [Nat.pow_succ, Nat.mul_comm]
      generalize s % 2 ^ (k + 2) = x
      rw [hev]
      generalize 2 ^ k = y
      rcases Nat.lt_trichotomy x (2 * y) with h | h | h
      · rw [if_pos (by omega : x < 2 * y), if_pos (by omega)]; rfl
      · rw [if_neg (by omega : ¬ x < 2 * y), if_pos h, if_neg (by omega), if_neg (by omega)]; rfl
      · rw [if_neg (by omega : ¬ x < 2 * y), if_neg (by omega : ¬ x = 2 * y), if_neg (by omega), if_neg (by omega)]; rfl
    rw [hhalf, hex]
  unfold packB tinyB
  rw [hlen, hg _ (by unfold atN; omega), hg _ (by omega)]
/-- A shift to the right, what is lost kept as one bit. -/
def jamN (y k : Nat) : Nat := if y % 2 ^ k = 0 then y / 2 ^ k else y / 2 ^ k ||| 1
theorem pack_shift (f m : Nat) (neg : Bool) (s k : Nat) (e : Int) (h0 : s ≠ 0) : packB f m neg (s * 2 ^ k) (e - k) false = packB f m neg s e false := by
  symm
  exact pack_finer ⟨by omega, by rw [show (e - (e - (k : Int))).toNat = k by omega, Nat.mul_div_cancel _ (two_pos _)], by rw [show (e - (e - (k : Int))).toNat = k by omega, Nat.mul_mod_left]; rfl⟩ f m neg h0 (fun h => by cases h)
theorem jam_plus (f m : Nat) (neg : Bool) (S y k : Nat) (e : Int) (hf : f < 4) (h0 : S + jamN y k ≠ 0) (hev : y % 2 ^ k ≠ 0 → S % 2 = 0 ∧ pF f + 2 ≤ lenN (S + y / 2 ^ k)) :
    packB f m neg (S + jamN y k) e false = packB f m neg (S * 2 ^ k + y) (e - k) false := by
  have hk : (e - (e - (k : Int))).toNat = k := by omega
  by_cases hz : y % 2 ^ k = 0
  · unfold jamN at h0 ⊢
    rw [if_pos hz] at h0 ⊢
    rw [← pack_shift f m neg _ k e h0, Nat.add_mul, Nat.div_mul_cancel (Nat.dvd_of_mod_eq_zero hz)]
  · obtain ⟨hs, hl⟩ := hev hz
    unfold jamN
    rw [if_neg hz]
    have e1 : S + (y / 2 ^ k ||| 1) = (S + y / 2 ^ k) ||| 1 := by rw [or_one, or_one]; omega
    rw [e1, ← pack_sticky f m neg _ e hf hl]
    refine pack_finer ⟨by omega, ?_, ?_⟩ f m neg (by intro h; rw [h, lenN_zero] at hl; omega) (fun _ => hl)
    · rw [hk, Nat.mul_comm S, Nat.mul_add_div (two_pos k)]
    · rw [hk, Nat.mul_comm S, Nat.mul_add_mod, decide_eq_false hz]; rfl
theorem jam_minus (f m : Nat) (neg : Bool) (S y k : Nat) (e : Int) (hf : f < 4) (h0 : jamN y k < S) (hev : y % 2 ^ k ≠ 0 → S % 2 = 0 ∧ pF f + 2 ≤ lenN (S - y / 2 ^ k - 1)) :
    packB f m neg (S - jamN y k) e false = packB f m neg (S * 2 ^ k - y) (e - k) false ∧ y < S * 2 ^ k := by
  have hk : (e - (e - (k : Int))).toNat = k := by omega
  have hdm := Nat.div_add_mod y (2 ^ k)
  have hml := Nat.mod_lt y (two_pos k)
  by_cases hz : y % 2 ^ k = 0
  · unfold jamN at h0 ⊢
    rw [if_pos hz] at h0 ⊢
    have hy : y / 2 ^ k * 2 ^ k = y := Nat.div_mul_cancel (Nat.dvd_of_mod_eq_zero hz)
    have hlt : y < S * 2 ^ k := by have := (Nat.mul_lt_mul_right (two_pos k)).2 h0; omega
    refine ⟨?_, hlt⟩
    rw [← pack_shift f m neg _ k e (by omega), Nat.sub_mul, hy]
  · obtain ⟨hs, hl⟩ := hev hz
    unfold jamN at h0 ⊢
    rw [if_neg hz] at h0 ⊢
    rw [or_one] at h0
    have hS : y / 2 ^ k + 1 ≤ S := by omega
    have hsplit : S * 2 ^ k - y = (S - y / 2 ^ k - 1) * 2 ^ k + (2 ^ k - y % 2 ^ k) ∧ y < S * 2 ^ k := by
      obtain ⟨r, hr⟩ : ∃ r, S = y / 2 ^ k + 1 + r := ⟨S - (y / 2 ^ k + 1), by omega⟩
      rw [show S - y / 2 ^ k - 1 = r by omega, hr, Nat.add_mul, Nat.add_mul, Nat.one_mul, Nat.mul_comm (y / 2 ^ k)]
      omega
    refine ⟨?_, hsplit.2⟩
    have e1 : S - (y / 2 ^ k ||| 1) = (S - y / 2 ^ k - 1) ||| 1 := by rw [or_one, or_one]; omega
    rw [e1, ← pack_sticky f m neg _ e hf hl, hsplit.1]
    have hr : 2 ^ k - y % 2 ^ k < 2 ^ k := by omega
    refine pack_finer ⟨by omega, ?_, ?_⟩ f m neg (by intro h; rw [h, lenN_zero] at hl; omega) (fun _ => hl)
    · rw [hk, Nat.mul_comm (S - y / 2 ^ k - 1), Nat.mul_add_div (two_pos k), Nat.div_eq_of_lt hr, Nat.add_zero]
    · rw [hk, Nat.mul_comm (S - y / 2 ^ k - 1), Nat.mul_add_mod, Nat.mod_eq_of_lt hr, decide_eq_false (by omega)]; rfl
end Go.Proofs.YtjgonofkklpgaaaDoor

namespace Go.Proofs.YtjgonofkklpgaaaDoor
open Go.RowKit
theorem limbN_pow (i j : Nat) : limbN (2 ^ i) j = if j = i / 64 then 2 ^ (i % 64) else 0 := by
  have h64 : 2 ^ (i % 64) < 18446744073709551616 := by rw [B64]; exact Nat.pow_lt_pow_right (by decide) (Nat.mod_lt _ (by decide))
  have hp : 2 ^ i = 0 + 2 ^ (i % 64) * 2 ^ (64 * (i / 64)) := by
    rw [Nat.zero_add, ← Nat.pow_add]; congr 1; omega
  have := limbN_put 0 (2 ^ (i % 64)) (i / 64) j (pw_pos _) h64
  rw [← hp] at this
  rw [this]
  have h0 : limbN 0 j = 0 := by unfold limbN; rw [Nat.zero_div]
  rw [h0]
/-- A bit set. -/
theorem limbs_or_bit (q i : Nat) (hi : i < 384) : (limbs q).setIfInBounds (i / 64) (.int .u64 (Go.bits .or .u64 (limb q (i / 64)) ((2 ^ (i % 64) : Nat) : Int))) = limbs (q ||| 2 ^ i) := by
  have key : ∀ j, limb (q ||| 2 ^ i) j = if j = i / 64 then Go.bits .or .u64 (limb q (i / 64)) ((2 ^ (i % 64) : Nat) : Int) else limb q j := by
    intro j
    rw [← limb_or]
    unfold limb
    rw [limbN_pow i j]
    split
    · rename_i h; rw [h]
    · rw [u64_or_nat _ _ (limbN_lt q j) (by decide), Nat.or_zero]
  apply Array.ext_getElem?
  intro j
  by_cases hj : j < 6
  · rw [limbs_get _ j hj, Array.getElem?_setIfInBounds, key j]
    by_cases h : i / 64 = j
    · rw [if_pos h, if_pos (by rw [limbs_size]; omega), if_pos h.symm]
    · rw [if_neg h, if_neg (fun e => h e.symm)]; exact limbs_get q j hj
  · rw [Array.getElem?_eq_none (by rw [Array.size_setIfInBounds, limbs_size]; omega), Array.getElem?_eq_none (by rw [limbs_size]; omega)]
theorem limbs_or1 (x : Nat) : (limbs x).setIfInBounds 0 (.int .u64 (Go.bits .or .u64 (limb x 0) 1)) = limbs (x ||| 1) := limbs_or_bit x 0 (by decide)
theorem set_or1 (x : Nat) : setRow (limbs x) 0 (#[.int .u64 (Go.bits .or .u64 (limb x 0) 1)] : Array Value).toList = limbs (x ||| 1) := limbs_or1 x
end Go.Proofs.YtjgonofkklpgaaaDoor

namespace Go.Proofs.YtjgonofkklpgaaaDoor
/-- The exact sum of two numbers, rounded. -/
def sumX (f m : Nat) (nx : Bool) (sx : Nat) (ex : Int) (ny : Bool) (sy : Nat) (ey : Int) : Nat × Nat :=
  if nx = ny then packB f m nx (sx * 2 ^ (ex - min ex ey).toNat + sy * 2 ^ (ey - min ex ey).toNat) (min ex ey) false
  else if sx * 2 ^ (ex - min ex ey).toNat = sy * 2 ^ (ey - min ex ey).toNat then (zeroN f (decide (m = 2)), 0)
  else if sy * 2 ^ (ey - min ex ey).toNat < sx * 2 ^ (ex - min ex ey).toNat then packB f m nx (sx * 2 ^ (ex - min ex ey).toNat - sy * 2 ^ (ey - min ex ey).toNat) (min ex ey) false
  else packB f m ny (sy * 2 ^ (ey - min ex ey).toNat - sx * 2 ^ (ex - min ex ey).toNat) (min ex ey) false
theorem sumX_swap (f m : Nat) (nx : Bool) (sx : Nat) (ex : Int) (ny : Bool) (sy : Nat) (ey : Int) : sumX f m nx sx ex ny sy ey = sumX f m ny sy ey nx sx ex := by
  unfold sumX
  rw [Int.min_comm ey ex]
  generalize sx * 2 ^ (ex - min ex ey).toNat = X
  generalize sy * 2 ^ (ey - min ex ey).toNat = Y
  by_cases h : nx = ny
  · rw [if_pos h, if_pos h.symm, h, Nat.add_comm]
  · rw [if_neg h, if_neg (show ¬ ny = nx from fun e => h e.symm)]
    rcases Nat.lt_trichotomy X Y with h1 | h1 | h1
    · rw [if_neg (show ¬ X = Y by omega), if_neg (show ¬ Y < X by omega), if_neg (show ¬ Y = X by omega), if_pos h1]
    · rw [if_pos h1, if_pos h1.symm]
    · rw [if_neg (show ¬ X = Y by omega), if_pos h1, if_neg (show ¬ Y = X by omega), if_neg (show ¬ X < Y by omega)]
/-- The sum as it is reckoned: one number S, in steps of 2^e, the other one moved down by k, what is lost kept as one bit. -/
def sumJ (f m : Nat) (nx : Bool) (S : Nat) (ny : Bool) (t : Nat) (e : Int) : Nat × Nat :=
  if nx = ny then packB f m nx (S + t) e false
  else if S = t then (zeroN f (decide (m = 2)), 0)
  else if t < S then packB f m nx (S - t) e false
  else packB f m ny (t - S) e false
theorem sumJ_eq (f m : Nat) (nx : Bool) (S : Nat) (ny : Bool) (y k : Nat) (e : Int) (hf : f < 4) (hS : S ≠ 0) (hy : y ≠ 0)
    (hev : y % 2 ^ k ≠ 0 → S % 2 = 0 ∧ pF f + 2 ≤ lenN (S - y / 2 ^ k - 1) ∧ y / 2 ^ k + 1 < S) :
    sumJ f m nx S ny (jamN y k) e = sumX f m nx (S * 2 ^ k) (e - k) ny y (e - k) := by
  have hz0 : (e - (k : Int) - min (e - k) (e - k)).toNat = 0 := by omega
  have hmin : min (e - (k : Int)) (e - k) = e - k := by omega
  have hdm := Nat.div_add_mod y (2 ^ k)
  have hml := Nat.mod_lt y (two_pos k)
  have hlen : ∀ a b : Nat, a ≤ b → lenN a ≤ lenN b := fun a b h => (lenN_le a _).2 (Nat.lt_of_le_of_lt h (lenN_lt b))
  unfold sumJ sumX
  rw [hz0, hmin, Nat.pow_zero, Nat.mul_one, Nat.mul_one]
  by_cases hn : nx = ny
  · rw [if_pos hn, if_pos hn]
    exact jam_plus f m nx S y k e hf (by omega) (fun h => ⟨(hev h).1, Nat.le_trans (hev h).2.1 (hlen _ _ (Nat.le_trans (Nat.sub_le _ _) (Nat.le_trans (Nat.sub_le _ _) (Nat.le_add_right _ _))))⟩)
  · rw [if_neg hn, if_neg hn]
    by_cases hz : y % 2 ^ k = 0
    · have hj : jamN y k = y / 2 ^ k := by unfold jamN; rw [if_pos hz]
      have hyk : jamN y k * 2 ^ k = y := by rw [hj]; exact Nat.div_mul_cancel (Nat.dvd_of_mod_eq_zero hz)
      rcases Nat.lt_trichotomy S (jamN y k) with h | h | h
      · have := (Nat.mul_lt_mul_right (two_pos k)).2 h
        rw [hyk] at this
        rw [if_neg (by omega), if_neg (by omega), if_neg (by omega), if_neg (by omega)]
        rw [← pack_shift f m ny _ k e (by omega), Nat.sub_mul, hyk]
      · rw [if_pos h, if_pos (by rw [h, hyk])]
      · have := jam_minus f m nx S y k e hf h (fun h' => absurd hz h')
        rw [if_neg (by omega), if_pos h, if_neg (by omega), if_pos this.2]
        exact this.1
    · obtain ⟨h1, h2, h3⟩ := hev hz
      have hj : jamN y k < S := by unfold jamN; rw [if_neg hz, or_one]; omega
      have := jam_minus f m nx S y k e hf hj (fun _ => ⟨h1, h2⟩)
      rw [if_neg (by omega), if_pos hj, if_neg (by omega), if_pos this.2]
      exact this.1
/-- The sum hangs on the numbers alone. -/
theorem sumX_scale (f m : Nat) (nx : Bool) (sx : Nat) (ex : Int) (ny : Bool) (sy : Nat) (ey : Int) (e : Int) (he : e ≤ min ex ey) (hx : sx ≠ 0) (hy : sy ≠ 0) :
    sumX f m nx (sx * 2 ^ (ex - e).toNat) e ny (sy * 2 ^ (ey - e).toNat) e = sumX f m nx sx ex ny sy ey := by
  obtain ⟨d, hd⟩ : ∃ d : Nat, (d : Int) = min ex ey - e := ⟨(min ex ey - e).toNat, by omega⟩
  have e1 : (ex - e).toNat = (ex - min ex ey).toNat + d := by omega
  have e2 : (ey - e).toNat = (ey - min ex ey).toNat + d := by omega
  have hz0 : (e - min e e).toNat = 0 := by omega
  have hmin : min e e = e := by omega
  have hee : e = min ex ey - (d : Int) := by omega
  unfold sumX
  rw [hz0, hmin, Nat.pow_zero, Nat.mul_one, Nat.mul_one, e1, e2, Nat.pow_add, Nat.pow_add, ← Nat.mul_assoc, ← Nat.mul_assoc]
  have hX : sx * 2 ^ (ex - min ex ey).toNat ≠ 0 := fun h => by rcases Nat.mul_eq_zero.1 h with h | h; exact hx h; exact absurd h (Nat.ne_of_gt (two_pos _))
  have hY : sy * 2 ^ (ey - min ex ey).toNat ≠ 0 := fun h => by rcases Nat.mul_eq_zero.1 h with h | h; exact hy h; exact absurd h (Nat.ne_of_gt (two_pos _))
  generalize sx * 2 ^ (ex - min ex ey).toNat = X at *
  generalize sy * 2 ^ (ey - min ex ey).toNat = Y at *
  rw [hee]
  by_cases hn : nx = ny
  · rw [if_pos hn, if_pos hn, ← Nat.add_mul, pack_shift f m nx _ d _ (by omega)]
  · rw [if_neg hn, if_neg hn]
    rcases Nat.lt_trichotomy X Y with h | h | h
    · have := (Nat.mul_lt_mul_right (two_pos d)).2 h
      rw [if_neg (by omega), if_neg (by omega), if_neg (by omega), if_neg (by omega), ← Nat.sub_mul, pack_shift f m ny _ d _ (by omega)]
    · rw [if_pos (by rw [h]), if_pos h]
    · have := (Nat.mul_lt_mul_right (two_pos d)).2 h
      rw [if_neg (by omega), if_pos (by omega), if_neg (by omega), if_pos h, ← Nat.sub_mul, pack_shift f m nx _ d _ (by omega)]
/-- The sum as add.Add reckons it. -/
def addUp (ex ey : Int) : Nat := (min (ex - ey) 200).toNat
theorem add_core (f m : Nat) (nx : Bool) (sx : Nat) (ex : Int) (ny : Bool) (sy : Nat) (ey : Int) (hf : f < 4) (hx : sx ≠ 0) (hy : sy ≠ 0) (hyl : sy < 2 ^ 113) (hle : ey ≤ ex) :
    sumJ f m nx (sx * 2 ^ addUp ex ey * 2 ^ 2) ny (jamN (sy * 2 ^ 2) (ex - addUp ex ey - ey).toNat) (ex - addUp ex ey - 2) = sumX f m nx sx ex ny sy ey := by
  obtain ⟨h1, h2, h3, h4, h5, h6, h7, h8⟩ := formK f hf
  obtain ⟨u, hu⟩ : ∃ u, addUp ex ey = u := ⟨_, rfl⟩
  have hu2 : (u : Int) = min (ex - ey) 200 := by rw [← hu]; unfold addUp; omega
  rw [hu]
  obtain ⟨k, hk⟩ : ∃ k, (ex - (u : Int) - ey).toNat = k := ⟨_, rfl⟩
  rw [hk]
  have hS : sx * 2 ^ u * 2 ^ 2 ≠ 0 := by
    have := Nat.pos_of_ne_zero hx
    exact Nat.ne_of_gt (Nat.mul_pos (Nat.mul_pos this (two_pos _)) (by decide))
  rw [sumJ_eq f m nx _ ny _ k _ hf hS (by omega) ?_]
  · rw [← sumX_scale f m nx sx ex ny sy ey (ex - u - 2 - k) (by omega) hx hy]
    have e1 : sx * 2 ^ u * 2 ^ 2 * 2 ^ k = sx * 2 ^ (ex - (ex - (u : Int) - 2 - k)).toNat := by
      rw [Nat.mul_assoc, Nat.mul_assoc, ← Nat.pow_add, ← Nat.pow_add, show (ex - (ex - (u : Int) - 2 - k)).toNat = u + (2 + k) by omega]
    have e2 : sy * 2 ^ 2 = sy * 2 ^ (ey - (ex - (u : Int) - 2 - k)).toNat := by
      rw [show (ey - (ex - (u : Int) - 2 - k)).toNat = 2 by omega]
    rw [e1, ← e2]
  · intro hlost
    have hkpos : 1 ≤ k := by
      rcases Nat.eq_zero_or_pos k with h | h
      · rw [h, Nat.pow_zero, Nat.mod_one] at hlost; exact absurd rfl hlost
      · exact h
    have hu200 : u = 200 := by omega
    subst hu200
    have hbig : 2 ^ 200 ≤ sx * 2 ^ 200 := Nat.le_mul_of_pos_left _ (Nat.pos_of_ne_zero hx)
    have hT : sy * 2 ^ 2 / 2 ^ k ≤ sy * 2 ^ 2 := Nat.div_le_self _ _
    have hyb : sy * 2 ^ 2 < 2 ^ 115 := by rw [show 115 = 113 + 2 from rfl, Nat.pow_add]; exact (Nat.mul_lt_mul_right (by decide)).2 hyl
    generalize sy * 2 ^ 2 / 2 ^ k = T at *
    generalize sx * 2 ^ 200 = Z at *
    refine ⟨by omega, ?_, by omega⟩
    rcases Nat.lt_or_ge (lenN (Z * 2 ^ 2 - T - 1)) 116 with h | h
    · have := (lenN_le (Z * 2 ^ 2 - T - 1) 115).1 (by omega)
      omega
    · omega
/-- No underflow: what is no finer than the least step is exact where it is tiny. -/
theorem no_under (f m : Nat) (neg : Bool) (s : Nat) (e : Int) (he : eminI f - pF f + 1 ≤ e) : (packB f m neg s e false).2 ≠ 3 := by
  unfold packB
  split
  · simp
  · split
    · simp
    · simp only []
      by_cases ht : eminI f ≤ (lenN s : Int) - 1 + e
      · have : tinyB f m neg s e false (lenN s - 1 + e) = false := by unfold tinyB; rw [if_neg (by omega), decide_eq_false (by omega)]
        rw [this]; cases (gridN m neg s e false (atN f (lenN s - 1 + e))).2 <;> simp
      · have hat : atN f (lenN s - 1 + e) = eminI f - pF f + 1 := by unfold atN; omega
        have : (gridN m neg s e false (atN f (lenN s - 1 + e))).2 = true := by rw [hat]; unfold gridN; rw [if_pos he]; rfl
        rw [this]; simp
theorem sumX_under (f m : Nat) (nx : Bool) (sx : Nat) (ex : Int) (ny : Bool) (sy : Nat) (ey : Int) (h1 : eminI f - pF f + 1 ≤ ex) (h2 : eminI f - pF f + 1 ≤ ey) : (sumX f m nx sx ex ny sy ey).2 ≠ 3 := by
  unfold sumX
  split
  · exact no_under f m _ _ _ (by omega)
  · split
    · simp
    · split <;> exact no_under f m _ _ _ (by omega)
theorem pack_flags (f m : Nat) (neg : Bool) (s : Nat) (e : Int) (mo : Bool) : (packB f m neg s e mo).2 = 0 ∨ (packB f m neg s e mo).2 = 1 ∨ (packB f m neg s e mo).2 = 3 ∨ (packB f m neg s e mo).2 = 5 := by
  unfold packB
  split
  · simp
  · split
    · simp
    · cases (gridN m neg s e mo (atN f (lenN s - 1 + e))).2 <;> cases (tinyB f m neg s e mo (lenN s - 1 + e)) <;> simp
theorem sumX_flags (f m : Nat) (nx : Bool) (sx : Nat) (ex : Int) (ny : Bool) (sy : Nat) (ey : Int) : (sumX f m nx sx ex ny sy ey).2 = 0 ∨ (sumX f m nx sx ex ny sy ey).2 = 1 ∨ (sumX f m nx sx ex ny sy ey).2 = 3 ∨ (sumX f m nx sx ex ny sy ey).2 = 5 := by
  unfold sumX
  split
  · exact pack_flags ..
  · split
    · simp
    · split <;> exact pack_flags ..
def addR (f m a b : Nat) : Nat × Nat :=
  if (nanB (clsN f a) || nanB (clsN f b)) = true then canonR f (clsN f a) (clsN f b)
  else if (infB (clsN f a) && infB (clsN f b) && !decide (clsN f a = clsN f b)) = true then (nanN f, 16)
  else if infB (clsN f a) = true then (a, 0)
  else if infB (clsN f b) = true then (b, 0)
  else if (zerB (clsN f a) && zerB (clsN f b)) = true then (if clsN f a = clsN f b then (a, 0) else (zeroN f (decide (m = 2)), 0))
  else if zerB (clsN f a) = true then (b, 0)
  else if zerB (clsN f b) = true then (a, 0)
  else sumX f m (belowN4 (clsN f a)) (sigN f a) (xpN f a) (belowN4 (clsN f b)) (sigN f b) (xpN f b)
def addN (f m a b : Nat) : Nat × Nat × Int := cond (binOk f m a b) ((addR f m a b).1, (addR f m a b).2, 0) (0, 0, 2)
theorem inf_same (f a b : Nat) (ha : fitsB f a = true) (hb : fitsB f b = true) (ca : clsN f a = 0 ∨ clsN f a = 7) (h : clsN f a = clsN f b) : a = b := by
  have h1 := inf_of f a ha ca
  have h2 := inf_of f b hb (by rw [← h]; exact ca)
  have : negN f a = negN f b := by rw [← below_neg f a (by omega), ← below_neg f b (by omega), h]
  rw [← h1, ← h2, this]
theorem zero_same (f a b : Nat) (ha : fitsB f a = true) (hb : fitsB f b = true) (ca : clsN f a = 3 ∨ clsN f a = 4) (h : clsN f a = clsN f b) : a = b := by
  have h1 := zero_of f a ha ca
  have h2 := zero_of f b hb (by rw [← h]; exact ca)
  have : negN f a = negN f b := by rw [← below_neg f a (by omega), ← below_neg f b (by omega), h]
  rw [← h1, ← h2, this]
theorem add_turned (f m a b : Nat) : addN f m a b = addN f m b a ∧ (binOk f m a b = true → (addR f m a b).2 ≠ 3 ∧ (addR f m a b).2 ≠ 2) := by
  have hO : binOk f m a b = binOk f m b a := by unfold binOk; rw [Bool.and_comm (fitsB f a)]
  by_cases hok : binOk f m a b = true
  · have hfit : fitsB f a = true ∧ fitsB f b = true := by unfold binOk at hok; simp only [Bool.and_eq_true] at hok; exact hok.2
    have key : addR f m a b = addR f m b a ∧ (addR f m a b).2 ≠ 3 ∧ (addR f m a b).2 ≠ 2 := by
      unfold addR
      rw [Bool.or_comm (nanB (clsN f b))]
      rcases cls_sort f a with ca | ca | ca | ca
      · have : nanB (clsN f a) = true := decide_eq_true ca
        rw [this]; simp only [Bool.true_or, if_true]
        unfold canonR; rw [Bool.or_comm]
        refine ⟨rfl, ?_⟩
        cases decide (clsN f b = 8) || decide (clsN f a = 8) <;> simp
      · obtain ⟨a1, a2, a3⟩ := inf_flags f a ca
        rcases cls_sort f b with cb | cb | cb | cb
        · have : nanB (clsN f b) = true := decide_eq_true cb
          rw [this]; simp only [Bool.or_true, if_true]
          unfold canonR; rw [Bool.or_comm]
          refine ⟨rfl, ?_⟩
          cases decide (clsN f b = 8) || decide (clsN f a = 8) <;> simp
        · obtain ⟨b1, b2, b3⟩ := inf_flags f b cb
          rw [a1, a2, b1, b2]
          by_cases he : clsN f a = clsN f b
          · have := inf_same f a b hfit.1 hfit.2 ca he
            subst this; simp
          · rw [decide_eq_false he, decide_eq_false (show ¬ clsN f b = clsN f a from fun h => he h.symm)]; simp
        · obtain ⟨b1, b2, b3⟩ := zer_flags f b cb
          rw [a1, a2, b1, b2]; simp
        · obtain ⟨b1, b2, b3⟩ := fin_flags f b cb
          rw [a1, a2, b1, b2]; simp
      · obtain ⟨a1, a2, a3⟩ := zer_flags f a ca
        rcases cls_sort f b with cb | cb | cb | cb
        · have : nanB (clsN f b) = true := decide_eq_true cb
          rw [this]; simp only [Bool.or_true, if_true]
          unfold canonR; rw [Bool.or_comm]
          refine ⟨rfl, ?_⟩
          cases decide (clsN f b = 8) || decide (clsN f a = 8) <;> simp
        · obtain ⟨b1, b2, b3⟩ := inf_flags f b cb
          rw [a1, a2, b1, b2]; simp
        · obtain ⟨b1, b2, b3⟩ := zer_flags f b cb
          rw [a1, a2, a3, b1, b2, b3]
          by_cases he : clsN f a = clsN f b
          · have := zero_same f a b hfit.1 hfit.2 ca he
            subst this; simp
          · rw [if_neg he, if_neg (show ¬ clsN f b = clsN f a from fun h => he h.symm)]; simp
        · obtain ⟨b1, b2, b3⟩ := fin_flags f b cb
          rw [a1, a2, a3, b1, b2, b3]; simp
      · obtain ⟨a1, a2, a3⟩ := fin_flags f a ca
        rcases cls_sort f b with cb | cb | cb | cb
        · have : nanB (clsN f b) = true := decide_eq_true cb
          rw [this]; simp only [Bool.or_true, if_true]
          unfold canonR; rw [Bool.or_comm]
          refine ⟨rfl, ?_⟩
          cases decide (clsN f b = 8) || decide (clsN f a = 8) <;> simp
        · obtain ⟨b1, b2, b3⟩ := inf_flags f b cb
          rw [a1, a2, b1, b2]; simp
        · obtain ⟨b1, b2, b3⟩ := zer_flags f b cb
          rw [a1, a2, a3, b1, b2, b3]; simp
        · obtain ⟨b1, b2, b3⟩ := fin_flags f b cb
          rw [a1, a2, a3, b1, b2, b3]
          have hca := (can_of f a hfit.1 ca).1
          have hcb := (can_of f b hfit.2 cb).1
          simp only [Bool.or_self, Bool.false_eq_true, if_false, Bool.and_self, Bool.false_and]
          refine ⟨sumX_swap .., sumX_under f m _ _ _ _ _ _ hca.ge hcb.ge, ?_⟩
          have := sumX_flags f m (belowN4 (clsN f a)) (sigN f a) (xpN f a) (belowN4 (clsN f b)) (sigN f b) (xpN f b)
          omega
    refine ⟨?_, fun _ => key.2⟩
    unfold addN; rw [← hO, hok, key.1]
  · have hno : binOk f m a b = false := by simpa using hok
    refine ⟨?_, fun h => absurd h hok⟩
    unfold addN; rw [← hO, hno]; rfl
/-- A zero of the own sign. -/
theorem add_zero (f m a : Nat) (hf : f < 4) (hc : Fin0 f a ∨ clsN f a = 3 ∨ clsN f a = 4) : addR f m a (zeroN f (negN f a)) = (a, 0) := by
  obtain ⟨z1, z2⟩ := zero_parts f (negN f a) hf
  have hz : clsN f (zeroN f (negN f a)) = 3 ∨ clsN f (zeroN f (negN f a)) = 4 := by rw [z2]; cases negN f a <;> simp
  obtain ⟨b1, b2, b3⟩ := zer_flags f _ hz
  unfold addR
  rw [b1, b2, b3]
  rcases hc with hc | hc
  · obtain ⟨a1, a2, a3⟩ := fin_flags f a hc
    rw [a1, a2, a3]; simp
  · obtain ⟨a1, a2, a3⟩ := zer_flags f a hc
    have he : clsN f a = clsN f (zeroN f (negN f a)) := by
      rw [z2, ← below_neg f a (by omega)]; unfold belowN4; rcases hc with h | h <;> rw [h] <;> rfl
    rw [a1, a2, a3, if_pos he]; simp
end Go.Proofs.YtjgonofkklpgaaaDoor

namespace Go.Proofs.YtjgonofkklpgaaaDoor
open Go.RowKit
theorem walkKfs39 {P : Prop} (h : P := by
  go_wp2_with (first
    | ((with_reducible show wpList _ _ _ (⟨_, .box _ _, _, _, _, _⟩ :: _) _ _); refine H.box rfl rfl (cells_agg _) ?_; (intro g w H; simp only [Act.put, List.setIfInBounds_toArray, List.set_cons_zero, List.set_cons_succ]))
    | ((with_reducible show wpList _ _ _ (⟨_, .load 26 _, _, _, _, _⟩ :: _) _ _); refine H.ld rfl rB rfl rfl (by repeat (first | with_reducible exact List.mem_cons_self | apply List.mem_cons_of_mem)) (by first | with_reducible exact ext_2 _ _) (by rfl) ?_; simp only [Act.put, List.setIfInBounds_toArray, List.set_cons_zero, List.set_cons_succ])
    | ((with_reducible show wpList _ _ _ (⟨_, .store 26 _ _, _, _, _, _⟩ :: _) _ _); refine H.st rfl rB rfl rfl (cells_agg _) (by repeat (first | with_reducible exact Upd.head _ | apply Upd.tail)) (by first | with_reducible exact set_all _ _ rfl) (by rfl) (by exact one_of rfl) (by first | exact ble_le rfl | (change _ + 1 ≤ 12; omega) | (change _ + 1 ≤ 6; omega)) ?_; (intro w H; simp only [Act.put]))
    | ((with_reducible show wpList _ _ _ (⟨_, .load 35 _, _, _, _, _⟩ :: _) _ _); refine H.ld rfl rW rfl rfl (by repeat (first | with_reducible exact List.mem_cons_self | apply List.mem_cons_of_mem)) (by first | with_reducible exact ext_limbs _ | with_reducible exact ext_parts_s _ _ _ _ | with_reducible exact ext_rough_s _ _ _ _ | with_reducible exact ext_parts_f _ _ _ _) (by rfl) ?_; simp only [Act.put, List.setIfInBounds_toArray, List.set_cons_zero, List.set_cons_succ])
    | ((with_reducible show wpList _ _ _ (⟨_, .store 35 _ _, _, _, _, _⟩ :: _) _ _); refine H.st rfl rW rfl rfl (cells_agg _) (by repeat (first | with_reducible exact Upd.head _ | apply Upd.tail)) (by first | with_reducible exact set_zero6 _ rfl | with_reducible exact set_all _ _ rfl | with_reducible exact set_parts_s _ _ _ _ _ | with_reducible exact set_rough_s _ _ _ _ _ | with_reducible exact set_parts_f _ _ _ _ _) (by rfl) (by exact one_of rfl) (by first | exact ble_le rfl | (change _ + 1 ≤ 12; omega) | (change _ + 1 ≤ 6; omega)) ?_; (intro w H; simp only [Act.put]))
    | (go_at_call 47; ((with_reducible refine (cF _).mono ?_); rintro e w ⟨rfl, hb⟩; replace H := H.call hb; clear hb))
    | (go_at_call 95; ((with_reducible refine (cO _).mono ?_); rintro e w ⟨rfl, hb⟩; replace H := H.call hb; clear hb))
    | (go_at_call 27; ((with_reducible refine (cW _).mono ?_); rintro e w ⟨rfl, hb⟩; replace H := H.call hb; clear hb))
    | (go_at_call 94; ((with_reducible refine (cB _).mono ?_); rintro e w ⟨rfl, hb⟩; replace H := H.call hb; clear hb))
    )
  all_goals (go_ret; exact ⟨rfl, H.below⟩)) : P := h
set_option maxHeartbeats 1600000 in
set_option maxRecDepth 100000 in
theorem kindSign_no (f b : Nat) (w : World) (cF : ∀ w, Calls Tryd.prog 47 #[.int .u8 f, BV b] w fun e w' => e = .returned (.bool false) ∧ Below w.heap.size w w') :
    Calls Tryd.prog 39 #[.int .u8 f, BV b] w fun e w' => e = .returned (.bool false) ∧ Below w.heap.size w w' := by
  have H := Own.start w
  go_enter Tryd.func39, Tryd.ntmps39
  exact walkKfs39
set_option maxHeartbeats 1600000 in
set_option maxRecDepth 100000 in
theorem kindSign_yes (f b n : Nat) (t : Bool) (w : World) (hn : 1 ≤ n) (hn2 : n ≤ 128) (cF : ∀ w, Calls Tryd.prog 47 #[.int .u8 f, BV b] w fun e w' => e = .returned (.bool true) ∧ Below w.heap.size w w') (cO : ∀ w, Calls Tryd.prog 95 #[BV b] w fun e w' => e = .returned (W b) ∧ Below w.heap.size w w') (cW : ∀ w, Calls Tryd.prog 27 #[.int .u8 f] w fun e w' => e = .returned (.int .i64 (n : Nat)) ∧ Below w.heap.size w w') (cB : ∀ w, Calls Tryd.prog 94 #[W b, .int .i64 ((n : Int) - 1)] w fun e w' => e = .returned (.bool t) ∧ Below w.heap.size w w') :
    Calls Tryd.prog 39 #[.int .u8 f, BV b] w fun e w' => e = .returned (.bool t) ∧ Below w.heap.size w w' := by
  have H := Own.start w
  go_enter Tryd.func39, Tryd.ntmps39
  exact walkKfs39
theorem walkKfs91 {P : Prop} (h : P := by
  go_wp2_with (first
    | ((with_reducible show wpList _ _ _ (⟨_, .box _ _, _, _, _, _⟩ :: _) _ _); refine H.box rfl rfl (cells_agg _) ?_; (intro g w H; simp only [Act.put, List.setIfInBounds_toArray, List.set_cons_zero, List.set_cons_succ]))
    | ((with_reducible show wpList _ _ _ (⟨_, .alloc 35, _, _, _, _⟩ :: _) _ _); refine H.mk0 rfl rW rfl ?_; (intro g w H; simp only [Act.put, List.setIfInBounds_toArray, List.set_cons_zero, List.set_cons_succ]))
    | ((with_reducible show wpList _ _ _ (⟨_, .load 35 _, _, _, _, _⟩ :: _) _ _); refine H.ld rfl rW rfl rfl (by repeat (first | with_reducible exact List.mem_cons_self | apply List.mem_cons_of_mem)) (by first | with_reducible exact ext_limbs _ | with_reducible exact ext_parts_s _ _ _ _ | with_reducible exact ext_rough_s _ _ _ _ | with_reducible exact ext_parts_f _ _ _ _) (by rfl) ?_; simp only [Act.put, List.setIfInBounds_toArray, List.set_cons_zero, List.set_cons_succ])
    | ((with_reducible show wpList _ _ _ (⟨_, .load 24 _, _, _, _, _⟩ :: _) _ _); refine H.ld1 rfl oU rfl rfl (by repeat (first | with_reducible exact List.mem_cons_self | apply List.mem_cons_of_mem)) (by first | with_reducible exact get_20 _ _ | with_reducible exact get_21 _ _ | with_reducible exact limbs_o0 _ | with_reducible exact limbs_o1 _ | with_reducible exact limbs_o2 _ | with_reducible exact limbs_o3 _ | with_reducible exact limbs_o4 _ | with_reducible exact limbs_o5 _) ?_; simp only [Act.put, List.setIfInBounds_toArray, List.set_cons_zero, List.set_cons_succ])
    | ((with_reducible show wpList _ _ _ (⟨_, .store 35 _ _, _, _, _, _⟩ :: _) _ _); refine H.st rfl rW rfl rfl (cells_agg _) (by repeat (first | with_reducible exact Upd.head _ | apply Upd.tail)) (set_limbs _ _) (by rfl) (by exact one_of rfl) (by first | exact ble_le rfl | (change _ + 1 ≤ 12; omega) | (change _ + 1 ≤ 6; omega)) ?_; (intro w H; simp only [Act.put]))
    | ((with_reducible show wpList _ _ _ (⟨_, .store 24 _ _, _, _, _, _⟩ :: _) _ _); refine H.st1 rfl oU rfl rfl (cells_int _ _) (by repeat (first | with_reducible exact Upd.head _ | apply Upd.tail)) (set_or1 _) (by rfl) (by exact one_of rfl) (by first | exact ble_le rfl | (change _ + 1 ≤ 12; omega) | (change _ + 1 ≤ 6; omega)) ?_; (intro w H; simp only [Act.put]))
    | (go_at_call 121; ((with_reducible refine (cR _ (HT.out.below H.below)).mono ?_); rintro e w ⟨rfl, hb⟩; replace H := H.call hb; clear hb))
    )
  all_goals (refine bodyPost_ret (results_c rfl rfl (H.res rW (by repeat (first | with_reducible exact List.mem_cons_self | apply List.mem_cons_of_mem)) (by first | with_reducible exact ext_limbs _ | with_reducible exact ext_parts_s _ _ _ _ | with_reducible exact ext_rough_s _ _ _ _ | with_reducible exact ext_parts_f _ _ _ _) (by rfl))) rfl ⟨?_, H.below⟩; exact rfl)) : P := h
set_option maxHeartbeats 1600000 in
set_option maxRecDepth 100000 in
theorem jamRight_t (a b : Nat) (x : Int) (w : World) (hT : Tab w) (cR : ∀ w, Tab w → Calls Tryd.prog 121 #[W a, .int .i64 x] w fun e w' => e = .returned (.tuple #[W b, .bool true]) ∧ Below w.heap.size w w') :
    Calls Tryd.prog 91 #[W a, .int .i64 x] w fun e w' => e = .returned (W (b ||| 1)) ∧ Below w.heap.size w w' := by
  have H := Own.start w
  have HT := Lib.hid hT
  clear hT
  go_enter Tryd.func91, Tryd.ntmps91
  exact walkKfs91
set_option maxHeartbeats 1600000 in
set_option maxRecDepth 100000 in
theorem jamRight_f (a b : Nat) (x : Int) (w : World) (hT : Tab w) (cR : ∀ w, Tab w → Calls Tryd.prog 121 #[W a, .int .i64 x] w fun e w' => e = .returned (.tuple #[W b, .bool false]) ∧ Below w.heap.size w w') :
    Calls Tryd.prog 91 #[W a, .int .i64 x] w fun e w' => e = .returned (W b) ∧ Below w.heap.size w w' := by
  have H := Own.start w
  have HT := Lib.hid hT
  clear hT
  go_enter Tryd.func91, Tryd.ntmps91
  exact walkKfs91
end Go.Proofs.YtjgonofkklpgaaaDoor

namespace Go.Proofs.YtjgonofkklpgaaaDoor
open Go.RowKit
theorem kindSign_any (f b : Nat) (w : World) (hf : f < 256) (hb : b < 2 ^ (64 * 2)) :
    Calls Tryd.prog 39 #[.int .u8 f, BV b] w fun e w' => e = .returned (.bool (fitsB f b && negN f b)) ∧ Below w.heap.size w w' := by
  have cF := fun w => shapeFits_any f b w hb
  cases h : fitsB f b
  · rw [h] at cF
    exact kindSign_no f b w cF
  · rw [h] at cF
    obtain ⟨hf4, -⟩ := (fits_iff f b).1 h
    obtain ⟨-, -, h3, h4, -⟩ := formB f hf4
    have cT := fun w => wideBit_any b ((wF f : Int) - 1) w
    rw [show (wF f : Int) - 1 = ((wF f - 1 : Nat) : Int) by omega, bitI_in b _ (lt_top_bits b hb), show ((wF f - 1 : Nat) : Int) = (wF f : Int) - 1 by omega] at cT
    exact kindSign_yes f b (wF f) _ w (by omega) (by omega) cF (fun w => wideOfBits_any b w hb) (fun w => shapeWidth_any f w hf) cT
theorem jamRight_any (a : Nat) (x : Int) (w : World) (ha : a < top6) (hT : Tab w) :
    Calls Tryd.prog 91 #[W a, .int .i64 x] w fun e w' => e = .returned (W (jamN a x.toNat)) ∧ Below w.heap.size w w' := by
  have cR := fun w hT => wideRight_n a x w ha hT
  unfold jamN
  by_cases h : a % 2 ^ x.toNat = 0
  · rw [if_pos h]
    rw [decide_eq_true h] at cR
    exact jamRight_f a _ x w hT cR
  · rw [if_neg h]
    rw [decide_eq_false h] at cR
    exact jamRight_t a _ x w hT cR
end Go.Proofs.YtjgonofkklpgaaaDoor

namespace Go.Proofs.YtjgonofkklpgaaaDoor
open Go.RowKit
section
variable {P : Program} {w : World} {op : Oper} {a : Act} {Q : Exit → Act → World → Prop} {ops : Array Oper} {rest : List Oper}
theorem run_build {t : TypeId} {n : Nat} {z : Array Value} {fs : Array Field} {places : Array (Nat × Nat)} (R : IsRow P t n z) (hu : P.underlying t = some (.struct fs))
    (hp : (fs.mapM fun f => do pure (f.offset, ← sizeOf f.type) : Sem (Array (Nat × Nat))).run P w = .ok places w) (ps : Array (Nat × Value)) (cs : Array Value) (hf : Instr.fill (places[·]?) z ps.toList = some cs) :
    (Instr.build t ps).run P w = .ok (.agg cs) w := by
  have hz := run_zeroValue R.zero w
  unfold Instr.build
  simp only [Sem.run_bind, hz, Result.andThen_ok, run_underlying hu, hp, Value.cells, hf]
  rfl
theorem fill_step (place : Nat → Option (Nat × Nat)) (cells : Array Value) (i off size : Nat) (v : Value) (rest : List (Nat × Value)) (hp : place i = some (off, size)) (h1 : v.cells.size = size) (h2 : off + size ≤ cells.size) :
    Instr.fill place cells ((i, v) :: rest) = Instr.fill place (setRow cells off v.cells.toList) rest := by
  rw [Instr.fill]
  simp only [hp]
  rw [if_neg (by simp [h1]; omega), foldl_cells]
theorem wp_bld {t : TypeId} {ps : Array (Nat × Operand)} (hw : Region.wanted op (yielded ops a.tmps) = true) (ho : op.op = .build t ps) {vs : Array (Nat × Value)} (hvs : (ps.map fun (i, x) => (i, a.eval x)) = vs) {v : Value}
    (hv : ∀ w, (Instr.build t vs).run P w = .ok v w) (h : wpList P ops Q rest (a.put op.dst v) w) : wpList P ops Q (op :: rest) a w := by
  refine wp_wanted hw fun K hK => ?_
  subst hvs
  have hk := hK _ _ h
  unfold Oper.wp execOp
  simp only [ho, Sem.run_bind, hv, Result.andThen_ok]
  exact hk
theorem wp_bld2 {t : TypeId} {i j : Nat} {x y : Operand} (hw : Region.wanted op (yielded ops a.tmps) = true) (ho : op.op = .build t #[(i, x), (j, y)]) {u1 u2 : Value} (h1 : a.eval x = u1) (h2 : a.eval y = u2) {v : Value}
    (hv : ∀ w, (Instr.build t #[(i, u1), (j, u2)]).run P w = .ok v w) (h : wpList P ops Q rest (a.put op.dst v) w) : wpList P ops Q (op :: rest) a w :=
  wp_bld hw ho (by simp [h1, h2]) hv h
end
/-- Where the parts of a rough number lie. -/
def roughAt : Array (Nat × Nat) := #[(0, 1), (1, 6), (7, 1), (8, 1)]
theorem rough_0 (neg : Bool) (s : Nat) (e : Int) (mo neg' : Bool) (rest : List (Nat × Value)) : Instr.fill (roughAt[·]?) (rough neg s e mo) ((0, .bool neg') :: rest) = Instr.fill (roughAt[·]?) (rough neg' s e mo) rest := fill_step _ _ 0 0 1 _ _ rfl rfl (show 0 + 1 ≤ 9 by decide)
theorem rough_2 (neg : Bool) (s : Nat) (e : Int) (mo : Bool) (e' : Int) (rest : List (Nat × Value)) : Instr.fill (roughAt[·]?) (rough neg s e mo) ((2, .int .i64 e') :: rest) = Instr.fill (roughAt[·]?) (rough neg s e' mo) rest := fill_step _ _ 2 7 1 _ _ rfl rfl (show 7 + 1 ≤ 9 by decide)
theorem places_rough (w : World) : ∃ fs, Tryd.prog.underlying 92 = some (.struct fs) ∧ (fs.mapM fun f => do pure (f.offset, ← sizeOf f.type) : Sem (Array (Nat × Nat))).run Tryd.prog w = .ok roughAt w := by
  refine ⟨_, Tryd.underlying92, ?_⟩
  unfold roughAt
  go_simp
theorem run_rough (w : World) (ps : Array (Nat × Value)) (cs : Array Value) (hf : Instr.fill (roughAt[·]?) (rough false 0 0 false) ps.toList = some cs) : (Instr.build 92 ps).run Tryd.prog w = .ok (.agg cs) w := by
  obtain ⟨fs, hu, hp⟩ := places_rough w
  exact run_build rR hu hp ps cs hf
theorem rough_ne (neg : Bool) (e : Int) (w : World) : (Instr.build 92 #[(0, .bool neg), (2, .int .i64 e)]).run Tryd.prog w = .ok (RV neg 0 e false) w :=
  run_rough w _ _ (by show Instr.fill _ _ [_, _] = _; rw [rough_0, rough_2]; rfl)
end Go.Proofs.YtjgonofkklpgaaaDoor

namespace Go.Proofs.YtjgonofkklpgaaaDoor
open Go.RowKit
theorem subW_nat (x y d : Nat) (c : Bool) (hx : x < 18446744073709551616) (hy : y < 18446744073709551616) (hd : d < 18446744073709551616) (h : (d + y + c.toNat) % 18446744073709551616 = x) : subW (x : Int) (y : Int) c = (d : Int) := by
  unfold subW; cases c <;> simp at h ⊢ <;> omega
theorem borW_nat (x y d : Nat) (c : Bool) (hx : x < 18446744073709551616) (hy : y < 18446744073709551616) (hd : d < 18446744073709551616) (h : (d + y + c.toNat) % 18446744073709551616 = x) : borW (x : Int) (y : Int) c = decide (18446744073709551616 ≤ d + y + c.toNat) := by
  unfold borW; rw [Bool.eq_iff_iff, decide_eq_true_iff, decide_eq_true_iff]; cases c <;> simp at h ⊢ <;> omega
/-- The difference, as a number of 384 bits. -/
def subN (a b : Nat) : Nat := a + top6 - b
theorem limbN_top (a i : Nat) (h : i < 6) : limbN (a + top6) i = limbN a i := by
  have e : top6 = 2 ^ (64 * i) * (18446744073709551616 * 2 ^ (64 * (5 - i))) := by
    unfold top6
    rw [show 64 * 6 = 64 * i + (64 + 64 * (5 - i)) by omega, Nat.pow_add, Nat.pow_add]
  unfold limbN
  rw [e, Nat.add_mul_div_left _ _ (pw_pos i), Nat.add_mul_mod_self_left]
theorem sub_word (a b k : Nat) (hb : b < top6) (hk : k < 6) : (limbN (subN a b) k + limbN b k + (cbit (subN a b) b k).toNat) % 18446744073709551616 = limbN a k := by
  have h1 := sum_step (subN a b) b k
  rw [mod_low] at h1
  have e : subN a b + b = a + top6 := by unfold subN; omega
  have h2 : limbN (subN a b + b) k = limbN a k := by rw [e, limbN_top a k hk]
  rw [← h2]
  have h3 : limbN (subN a b + b) k * 2 ^ (64 * k) = (limbN (subN a b) k + limbN b k + (cbit (subN a b) b k).toNat) % 18446744073709551616 * 2 ^ (64 * k) := by omega
  exact (Nat.eq_of_mul_eq_mul_right (pw_pos k) h3).symm
theorem limbs_sub (a b : Nat) (h : b ≤ a) : limbs (subN a b) = limbs (a - b) := by
  apply limbs_eq
  intro i hi
  rw [← limbN_top (a - b) i hi]
  unfold subN
  rw [show a + top6 - b = a - b + top6 by omega]
theorem sub_limb (a b k : Nat) (cb : Bool) (hb : b < top6) (hk : k < 6) (h : cbit (subN a b) b k = cb) : subW (limb a k) (limb b k) cb = limb (subN a b) k := by
  unfold limb
  exact subW_nat _ _ _ _ (limbN_lt a k) (limbN_lt b k) (limbN_lt _ k) (by rw [← h]; exact sub_word a b k hb hk)
theorem sub_borrow (a b k : Nat) (cb : Bool) (hb : b < top6) (hk : k < 6) (h : cbit (subN a b) b k = cb) : cbit (subN a b) b (k + 1) = borW (limb a k) (limb b k) cb := by
  unfold limb
  rw [borW_nat _ _ _ _ (limbN_lt a k) (limbN_lt b k) (limbN_lt _ k) (by rw [← h]; exact sub_word a b k hb hk), cbit_step, h]
set_option maxHeartbeats 1600000 in
set_option maxRecDepth 100000 in
theorem wideSub_any (a b : Nat) (w : World) (hbt : b < top6) :
    Calls Tryd.prog 93 #[W a, W b] w fun e w' => e = .returned (.tuple #[W (subN a b), .bool (cbit (subN a b) b 6)]) ∧ Below w.heap.size w w' := by
  have HT := Lib.hid hbt
  clear hbt
  have sa := limbs_size a
  have sb := limbs_size b
  go_enter Tryd.func93, Tryd.ntmps93
  go_wp2_with fail
  go_loopw [5, 7] (fun c i wr => ∃ (k : Nat) (cb : Bool), k ≤ 6 ∧ i = .int .i64 k ∧ c = .bool cb ∧ Hid (cbit (subN a b) b k = cb) ∧
      Blk 35 wr w.heap.size (limbs a) ∧ Blk 35 wr (w.heap.size + 1) (limbs b) ∧
      Blk 35 wr (w.heap.size + 1 + 1) (fillTo (limbs 0) (fun i => .int .u64 (limb (subN a b) i)) k) ∧ Below w.heap.size w wr) (fun _ i _ => 6 - (intOf i).toNat)
  case atStart =>
    refine ⟨0, false, by omega, rfl, rfl, cbit_zero _ b, ((Blk.new w _).alloc _).alloc _, ?_, ?_, ((((Below.refl _ _).alloc (Nat.le_refl _) _).alloc (by simp) _).alloc (by simp <;> omega) _)⟩
    · have := (Blk.new (T := 35) (w.alloc (.cells (limbs a) 35)) (limbs b)).alloc (.cells #[.int .u64 0, .int .u64 0, .int .u64 0, .int .u64 0, .int .u64 0, .int .u64 0] 35)
      simpa using this
    · have := Blk.new (T := 35) ((w.alloc (.cells (limbs a) 35)).alloc (.cells (limbs b) 35)) #[.int .u64 0, .int .u64 0, .int .u64 0, .int .u64 0, .int .u64 0, .int .u64 0]
      rw [fillTo, limbs_zero]
      simpa using this
  case round =>
    obtain ⟨k, cb, hk, rfl, rfl, hc, ha, hb, hs, hbel⟩ := hrel
    by_cases hlt : k < 6
    · have ca := ha.cell k (limbs_get a k hlt)
      have cb' := hb.cell k (limbs_get b k hlt)
      have cs := hs.cell k ((fillTo_hi _ _ k k (Nat.le_refl _)).trans (limbs_get 0 k hlt))
      have fs := hs.free k
      go_wp2_with fail
      go_region_with (go_at_call 149; refine (wordSub_any _ _ _ _ (limb_w a k) (limb_w b k)).mono ?_; rintro e w' ⟨rfl, rfl⟩)
      all_goals go_wp2
      all_goals
        go_roundw
        case rel => exact ⟨k + 1, _, by omega, by go_num, rfl, sub_borrow a b k cb HT.out (by omega) hc.out, (ha.other _ _ (by simp; omega)).drew, (hb.other _ _ (by simp)).drew, (hs.set k _ (by rw [sub_limb a b k cb HT.out (by omega) hc.out]; rfl)).drew, (hbel.setCell (by simp; omega) _).drew⟩
        case measure => simp [intOf]; omega
    · have : k = 6 := by omega
      subst this
      rw [fillTo_all (limbs 0) _ (subN a b) rfl (fun i _ => rfl)] at hs
      have c0 := hs.cell 0 (limbs_get _ 0 (by decide))
      have c1 := hs.cell 1 (limbs_get _ 1 (by decide))
      have c2 := hs.cell 2 (limbs_get _ 2 (by decide))
      have c3 := hs.cell 3 (limbs_get _ 3 (by decide))
      have c4 := hs.cell 4 (limbs_get _ 4 (by decide))
      have c5 := hs.cell 5 (limbs_get _ 5 (by decide))
      have f0 := hs.free 0
      have f1 := hs.free 1
      have f2 := hs.free 2
      have f3 := hs.free 3
      have f4 := hs.free 4
      have f5 := hs.free 5
      clear ha hb hlt
      go_wp2_with fail
      rw [hs.keep 0 _ (limbs_get _ 0 (by decide)), hs.keep 1 _ (limbs_get _ 1 (by decide)), hs.keep 2 _ (limbs_get _ 2 (by decide)), hs.keep 3 _ (limbs_get _ 3 (by decide)), hs.keep 4 _ (limbs_get _ 4 (by decide)), hs.keep 5 _ (limbs_get _ 5 (by decide))]
      refine bodyPost_ret (v := .tuple #[W (subN a b), .bool cb]) (by simp [results, Tryd.results93, go_sem, c0, c1, c2, c3, c4, c5, limbs]) rfl ⟨by rw [hc.out], hbel⟩
end Go.Proofs.YtjgonofkklpgaaaDoor

namespace Go.Proofs.YtjgonofkklpgaaaDoor
open Go.RowKit
theorem div_step (a k : Nat) : a / 2 ^ (64 * k) = a / 2 ^ (64 * (k + 1)) * 18446744073709551616 + limbN a k := by
  unfold limbN
  rw [pw_succ, ← Nat.div_div_eq_div_mul]
  have := Nat.div_add_mod (a / 2 ^ (64 * k)) 18446744073709551616
  omega
theorem cmp_less (a b k : Nat) (h : a / 2 ^ (64 * (k + 1)) = b / 2 ^ (64 * (k + 1))) (hl : limbN a k < limbN b k) : a < b := by
  have h1 := div_step a k
  have h2 := div_step b k
  rw [h] at h1
  rcases Nat.lt_or_ge a b with hab | hab
  · exact hab
  · have := Nat.div_le_div_right (c := 2 ^ (64 * k)) hab
    omega
theorem cmp_same (a b k : Nat) (h : a / 2 ^ (64 * (k + 1)) = b / 2 ^ (64 * (k + 1))) (hl : limbN a k = limbN b k) : a / 2 ^ (64 * k) = b / 2 ^ (64 * k) := by
  rw [div_step a k, div_step b k, h, hl]
def EqFrom (a b k : Nat) : Prop := a / 2 ^ (64 * k) = b / 2 ^ (64 * k)
theorem eqFrom6 {a b : Nat} (ha : a < top6) (hb : b < top6) : EqFrom a b 6 := by
  unfold top6 at ha hb
  unfold EqFrom
  rw [Nat.div_eq_of_lt ha, Nat.div_eq_of_lt hb]
theorem below_drewN {B : Nat} {w w' : World} (h : Below B w w') (n : Nat) : Below B w (w'.drewN n) := ⟨h.os, h.tape, h.output, h.size, h.block⟩
theorem limb_lt (a b k : Nat) : limb a k < limb b k ↔ limbN a k < limbN b k := by unfold limb; omega
set_option maxHeartbeats 1600000 in
set_option maxRecDepth 100000 in
theorem wideCmp_any (a b : Nat) (w : World) (ha : a < top6) (hb : b < top6) :
    Calls Tryd.prog 54 #[W a, W b] w fun e w' => e = .returned (.int .i64 (cmpN a b)) ∧ Below w.heap.size w w' := by
  have sa := limbs_size a
  have sb := limbs_size b
  have E6 := eqFrom6 ha hb
  clear ha hb
  go_enter Tryd.func54, Tryd.ntmps54
  go_wp2_with fail
  go_loopw [5] (fun i wr => ∃ k : Nat, k ≤ 6 ∧ i = .int .i64 ((k : Int) - 1) ∧ EqFrom a b k ∧ Blk 35 wr w.heap.size (limbs a) ∧ Blk 35 wr (w.heap.size + 1) (limbs b) ∧ Below w.heap.size w wr) (fun i _ => (intOf i + 1).toNat)
  case atStart =>
    refine ⟨6, by omega, rfl, E6, (Blk.new w _).alloc _, ?_, ((Below.refl _ _).alloc (Nat.le_refl _) _).alloc (by simp) _⟩
    have := Blk.new (T := 35) (w.alloc (.cells (limbs a) 35)) (limbs b)
    simpa using this
  case round =>
    obtain ⟨k, hk, rfl, hE, hA, hB, hbel⟩ := hrel
    cases k with
    | zero =>
      have Z := Lib.hid (show (0 : Int) = cmpN a b by
        have : a = b := by have := hE; unfold EqFrom at this; simpa using this
        unfold cmpN; rw [if_neg (by omega), if_neg (by omega)])
      clear hE
      go_wp2_with fail
      go_ret
      exact ⟨ret_int Z.out, hbel⟩
    | succ j =>
      have ca := hA.cell j (limbs_get a j (by omega))
      have cb := hB.cell j (limbs_get b j (by omega))
      rw [show ((j + 1 : Nat) : Int) - 1 = (j : Int) by omega]
      by_cases h1 : limb a j < limb b j
      · have Z := Lib.hid (show (-1 : Int) = cmpN a b by
          have := cmp_less a b j hE ((limb_lt a b j).1 h1)
          unfold cmpN; rw [if_pos this])
        have d1 : decide (limb a j < limb b j) = true := decide_eq_true h1
        clear hE
        go_wp2_with fail
        go_quiet (fail)
        go_wp2_with fail
        go_ret
        exact ⟨ret_int Z.out, below_drewN hbel _⟩
      · have d1 : decide (limb a j < limb b j) = false := decide_eq_false h1
        by_cases h2 : limb b j < limb a j
        · have Z := Lib.hid (show (1 : Int) = cmpN a b by
            have := cmp_less b a j hE.symm ((limb_lt b a j).1 h2)
            unfold cmpN; rw [if_neg (by omega), if_pos this])
          have d2 : decide (limb b j < limb a j) = true := decide_eq_true h2
          clear hE h1
          go_wp2_with fail
          go_quiet (fail)
          go_wp2_with fail
          go_quiet (fail)
          go_wp2_with fail
          go_ret
          exact ⟨ret_int Z.out, below_drewN (below_drewN hbel _) _⟩
        · have d2 : decide (limb b j < limb a j) = false := decide_eq_false h2
          have S : EqFrom a b j := cmp_same a b j hE (by unfold limb at h1 h2; omega)
          clear hE h1 h2
          go_wp2_with fail
          go_quiet (fail)
          go_wp2_with fail
          go_quiet (fail)
          go_wp2_with fail
          go_roundw
          case rel => exact ⟨j, by omega, rfl, S, hA, hB, below_drewN hbel _⟩
          case measure => simp [intOf]
end Go.Proofs.YtjgonofkklpgaaaDoor

namespace Go.Proofs.YtjgonofkklpgaaaDoor
open Go.RowKit
theorem set_rw (n : Bool) (s : Nat) (e : Int) (mo n2 : Bool) (s2 : Nat) (e2 : Int) (mo2 : Bool) : setRow (rough n s e mo) 0 (rough n2 s2 e2 mo2).toList = rough n2 s2 e2 mo2 := set_all _ _ rfl
set_option maxHeartbeats 1600000 in
set_option maxRecDepth 100000 in
theorem addAdd_no (f m a b : Nat) (c1 s1 f1 : Nat) (x1 : Int) (c2 s2 f2 : Nat) (x2 : Int) (c3 s3 f3 : Nat) (x3 : Int) (w : World) (hT : Tab w) (cO : ∀ w g, Tab w → Blk 26 w g (cat2 (bc a) (bc b)) → Calls Tryd.prog 86 #[.int .u8 f, .int .u8 m, .slice (some ⟨g, 0, none⟩) 2 2] w fun e w' => e = .returned (.tuple #[.agg (tri c1 s1 x1 f1 c2 s2 x2 f2 c3 s3 x3 f3), .bool false]) ∧ Below w.heap.size w w') :
    Calls Tryd.prog 35 #[.int .u8 f, .int .u8 m, BV a, BV b] w fun e w' => e = .returned (.tuple #[BV 0, .int .u8 0, .int .i64 2]) ∧ Below w.heap.size w w' := by
  have H := Own.start w
  have HT := Lib.hid hT
  clear hT
  go_enter Tryd.func35, Tryd.ntmps35
  go_wp2_with (first
    | ((with_reducible show wpList _ _ _ (⟨_, .box _ _, _, _, _, _⟩ :: _) _ _); refine H.box rfl rfl (cells_agg _) ?_; (intro g w H; simp only [Act.put, List.setIfInBounds_toArray, List.set_cons_zero, List.set_cons_succ]))
    | ((with_reducible show wpList _ _ _ (⟨_, .alloc 26, _, _, _, _⟩ :: _) _ _); refine H.mk0 rfl rB rfl ?_; (intro g w H; simp only [Act.put, List.setIfInBounds_toArray, List.set_cons_zero, List.set_cons_succ]))
    | ((with_reducible show wpList _ _ _ (⟨_, .alloc 100, _, _, _, _⟩ :: _) _ _); refine H.mk0 rfl rQ rfl ?_; (intro g w H; simp only [Act.put, List.setIfInBounds_toArray, List.set_cons_zero, List.set_cons_succ]))
    | ((with_reducible show wpList _ _ _ (⟨_, .alloc 75, _, _, _, _⟩ :: _) _ _); refine H.mk0 rfl rP rfl ?_; (intro g w H; simp only [Act.put, List.setIfInBounds_toArray, List.set_cons_zero, List.set_cons_succ]))
    | ((with_reducible show wpList _ _ _ (⟨_, .alloc 35, _, _, _, _⟩ :: _) _ _); refine H.mk0 rfl rW rfl ?_; (intro g w H; simp only [Act.put, List.setIfInBounds_toArray, List.set_cons_zero, List.set_cons_succ]))
    | ((with_reducible show wpList _ _ _ (⟨_, .alloc 92, _, _, _, _⟩ :: _) _ _); refine H.mk0 rfl rR rfl ?_; (intro g w H; simp only [Act.put, List.setIfInBounds_toArray, List.set_cons_zero, List.set_cons_succ]))
    | ((with_reducible show wpList _ _ _ (⟨_, .load 26 _, _, _, _, _⟩ :: _) _ _); refine H.ld rfl rB rfl rfl (by repeat (first | with_reducible exact List.mem_cons_self | apply List.mem_cons_of_mem)) (by first | with_reducible exact ext_2 _ _) (by rfl) ?_; simp only [Act.put, List.setIfInBounds_toArray, List.set_cons_zero, List.set_cons_succ])
    | ((with_reducible show wpList _ _ _ (⟨_, .load 100 _, _, _, _, _⟩ :: _) _ _); refine H.ld rfl rQ rfl rfl (by repeat (first | with_reducible exact List.mem_cons_self | apply List.mem_cons_of_mem)) (by first | with_reducible exact ext_tri _ _ _ _ _ _ _ _ _ _ _ _) (by rfl) ?_; simp only [Act.put, List.setIfInBounds_toArray, List.set_cons_zero, List.set_cons_succ])
    | ((with_reducible show wpList _ _ _ (⟨_, .store 26 _ _, _, _, _, _⟩ :: _) _ _); refine H.st rfl rB rfl rfl (cells_agg _) (by repeat (first | with_reducible exact Upd.head _ | apply Upd.tail)) (set_bits _ _ _ _) (by rfl) (by exact one_of rfl) (by first | exact ble_le rfl | (change _ + 1 ≤ 12; omega) | (change _ + 1 ≤ 6; omega)) ?_; (intro w H; simp only [Act.put]))
    | ((with_reducible show wpList _ _ _ (⟨_, .store 100 _ _, _, _, _, _⟩ :: _) _ _); refine H.st rfl rQ rfl rfl (cells_agg _) (by repeat (first | with_reducible exact Upd.head _ | apply Upd.tail)) (set_tri _ _ _ _ _ _ _ _ _ _ _ _ _ _ _ _ _ _ _ _ _ _ _ _ ) (by rfl) (by exact one_of rfl) (by first | exact ble_le rfl | (change _ + 1 ≤ 12; omega) | (change _ + 1 ≤ 6; omega)) ?_; (intro w H; simp only [Act.put]))
    | ((with_reducible show wpList _ _ _ (⟨_, .store 75 _ _, _, _, _, _⟩ :: _) _ _); refine H.st rfl rP rfl rfl (cells_agg _) (by repeat (first | with_reducible exact Upd.head _ | apply Upd.tail)) (set_pw _ _ _ _ _ _ _ _) (by rfl) (by exact one_of rfl) (by first | exact ble_le rfl | (change _ + 1 ≤ 12; omega) | (change _ + 1 ≤ 6; omega)) ?_; (intro w H; simp only [Act.put]))
    | ((with_reducible show wpList _ _ _ (⟨_, .store 35 _ _, _, _, _, _⟩ :: _) _ _); refine H.st (o := 0) rfl rW rfl rfl (cells_agg _) (by repeat (first | with_reducible exact Upd.head _ | apply Upd.tail)) (set_limbs _ _) (by rfl) (by exact one_of rfl) (by first | exact ble_le rfl | (change _ + 1 ≤ 12; omega) | (change _ + 1 ≤ 6; omega)) ?_; (intro w H; simp only [Act.put]))
    | ((with_reducible show wpList _ _ _ (⟨_, .store 35 _ _, _, _, _, _⟩ :: _) _ _); refine H.st (o := 1) rfl rW rfl rfl (cells_agg _) (by repeat (first | with_reducible exact Upd.head _ | apply Upd.tail)) (set_rough_s _ _ _ _ _) (by rfl) (by exact one_of rfl) (by first | exact ble_le rfl | (change _ + 1 ≤ 12; omega) | (change _ + 1 ≤ 6; omega)) ?_; (intro w H; simp only [Act.put]))
    | ((with_reducible show wpList _ _ _ (⟨_, .store 92 _ _, _, _, _, _⟩ :: _) _ _); refine H.st rfl rR rfl rfl (cells_agg _) (by repeat (first | with_reducible exact Upd.head _ | apply Upd.tail)) (set_rw _ _ _ _ _ _ _ _) (by rfl) (by exact one_of rfl) (by first | exact ble_le rfl | (change _ + 1 ≤ 12; omega) | (change _ + 1 ≤ 6; omega)) ?_; (intro w H; simp only [Act.put]))
    | ((with_reducible show wpList _ _ _ (⟨_, .store 4 _ _, _, _, _, _⟩ :: _) _ _); refine H.st1 rfl oT rfl rfl (cells_bool _) (by repeat (first | with_reducible exact Upd.head _ | apply Upd.tail)) (set_rough_n _ _ _ _ _) (by rfl) (by exact one_of rfl) (by first | exact ble_le rfl | (change _ + 1 ≤ 12; omega) | (change _ + 1 ≤ 6; omega)) ?_; (intro w H; simp only [Act.put]))
    | ((with_reducible show wpList _ _ _ (⟨_, .buildSlice 156 _ _, _, _, _, _⟩ :: _) _ _); refine H.bs2 rfl Tryd.underlying156 rB rfl rfl rfl  (by rfl) (by rfl)  (by decide) rfl ?_; (intro g w H; simp only [Act.put, List.setIfInBounds_toArray, List.set_cons_zero, List.set_cons_succ]))
    | ((with_reducible show wpList _ _ _ (⟨_, .buildSlice 157 _ _, _, _, _, _⟩ :: _) _ _); refine H.bs2 rfl Tryd.underlying157 rP rfl rfl rfl  (by rfl) (by rfl)  (by decide) rfl ?_; (intro g w H; simp only [Act.put, List.setIfInBounds_toArray, List.set_cons_zero, List.set_cons_succ]))
    | ((with_reducible show wpList _ _ _ (⟨_, .build 92 _, _, _, _, _⟩ :: _) _ _); refine wp_bld2 rfl rfl rfl rfl (rough_ne _ _ ) ?_; simp only [Act.put, List.setIfInBounds_toArray, List.set_cons_zero, List.set_cons_succ])
    | (go_at_call 86; ((with_reducible refine (cO _ _ (HT.out.below H.below) (H.blk (_, 26, _) (by repeat (first | with_reducible exact List.mem_cons_self | apply List.mem_cons_of_mem)))).mono ?_); rintro e w ⟨rfl, hb⟩; replace H := H.call hb; clear hb))
    )
  all_goals
    refine bodyPost_ret (results_ctt rfl rfl (H.res rB (by repeat (first | with_reducible exact List.mem_cons_self | apply List.mem_cons_of_mem)) (by first | with_reducible exact ext_2 _ _) (by rfl))) rfl ⟨?_, H.below⟩
    exact by rw [show BV 0 = .agg #[.int .u64 (limb 0 1), .int .u64 (limb 0 0)] from rfl, limb_zero, limb_zero]; rfl
end Go.Proofs.YtjgonofkklpgaaaDoor
