/- Part 7 of what is proved: Sq0, Sq1, Fin, Fin2, Sqj. -/
import Derived.Test.YtdcgcjmajacgiaaDoorHq2
import Derived.Test.YtdcgcjmajacgiaaDoorHq5
import Derived.Test.YtdcgcjmajacgiaaDoorHq6
set_option linter.unusedSimpArgs false
set_option linter.unusedVariables false
set_option linter.unnecessarySimpa false
namespace Go.Proofs.YtdcgcjmajacgiaaDoor
open Go.RowKit
set_option maxRecDepth 100000 in
theorem walk28 {P : Prop} (h : P := by
  go_wp2_with (first
    | ((with_reducible show wpList _ _ _ (⟨_, .box _ _, _, _, _, _⟩ :: _) _ _); refine H.box rfl rfl (cells_agg _) ?_; (intro g w H; simp only [Act.put, List.setIfInBounds_toArray, List.set_cons_zero, List.set_cons_succ]))
    | ((with_reducible show wpList _ _ _ (⟨_, .alloc 27, _, _, _, _⟩ :: _) _ _); refine H.mk0 rfl rB rfl ?_; (intro g w H; simp only [Act.put, List.setIfInBounds_toArray, List.set_cons_zero, List.set_cons_succ]))
    | ((with_reducible show wpList _ _ _ (⟨_, .alloc 73, _, _, _, _⟩ :: _) _ _); refine H.mk0 rfl rQ rfl ?_; (intro g w H; simp only [Act.put, List.setIfInBounds_toArray, List.set_cons_zero, List.set_cons_succ]))
    | ((with_reducible show wpList _ _ _ (⟨_, .alloc 72, _, _, _, _⟩ :: _) _ _); refine H.mk0 rfl rP rfl ?_; (intro g w H; simp only [Act.put, List.setIfInBounds_toArray, List.set_cons_zero, List.set_cons_succ]))
    | ((with_reducible show wpList _ _ _ (⟨_, .alloc 54, _, _, _, _⟩ :: _) _ _); refine H.mk0 rfl rW rfl ?_; (intro g w H; simp only [Act.put, List.setIfInBounds_toArray, List.set_cons_zero, List.set_cons_succ]))
    | ((with_reducible show wpList _ _ _ (⟨_, .load 27 _, _, _, _, _⟩ :: _) _ _); refine H.ld rfl rB rfl rfl (by repeat (first | with_reducible exact List.mem_cons_self | apply List.mem_cons_of_mem)) (by first | with_reducible exact ext_2 _ _) (by rfl) ?_; simp only [Act.put, List.setIfInBounds_toArray, List.set_cons_zero, List.set_cons_succ])
    | ((with_reducible show wpList _ _ _ (⟨_, .load 73 _, _, _, _, _⟩ :: _) _ _); refine H.ld rfl rQ rfl rfl (by repeat (first | with_reducible exact List.mem_cons_self | apply List.mem_cons_of_mem)) (by first | with_reducible exact ext_tri _ _ _ _ _ _ _ _ _ _ _ _) (by rfl) ?_; simp only [Act.put, List.setIfInBounds_toArray, List.set_cons_zero, List.set_cons_succ])
    | ((with_reducible show wpList _ _ _ (⟨_, .store 27 _ _, _, _, _, _⟩ :: _) _ _); refine H.st rfl rB rfl rfl (cells_agg _) (by repeat (first | with_reducible exact Upd.head _ | apply Upd.tail)) (set_bits _ _ _ _) (by rfl) (by exact one_of rfl) (by first | exact ble_le rfl | (change _ + 1 ≤ 12; omega) | (change _ + 1 ≤ 6; omega)) ?_; (intro w H; simp only [Act.put]))
    | ((with_reducible show wpList _ _ _ (⟨_, .store 73 _ _, _, _, _, _⟩ :: _) _ _); refine H.st rfl rQ rfl rfl (cells_agg _) (by repeat (first | with_reducible exact Upd.head _ | apply Upd.tail)) (set_tri _ _ _ _ _ _ _ _ _ _ _ _ _ _ _ _ _ _ _ _ _ _ _ _ ) (by rfl) (by exact one_of rfl) (by first | exact ble_le rfl | (change _ + 1 ≤ 12; omega) | (change _ + 1 ≤ 6; omega)) ?_; (intro w H; simp only [Act.put]))
    | ((with_reducible show wpList _ _ _ (⟨_, .store 72 _ _, _, _, _, _⟩ :: _) _ _); refine H.st rfl rP rfl rfl (cells_agg _) (by repeat (first | with_reducible exact Upd.head _ | apply Upd.tail)) (set_pw _ _ _ _ _ _ _ _) (by rfl) (by exact one_of rfl) (by first | exact ble_le rfl | (change _ + 1 ≤ 12; omega) | (change _ + 1 ≤ 6; omega)) ?_; (intro w H; simp only [Act.put]))
    | ((with_reducible show wpList _ _ _ (⟨_, .store 54 _ _, _, _, _, _⟩ :: _) _ _); refine H.st rfl rW rfl rfl (cells_agg _) (by repeat (first | with_reducible exact Upd.head _ | apply Upd.tail)) (set_limbs _ _) (by rfl) (by exact one_of rfl) (by first | exact ble_le rfl | (change _ + 1 ≤ 12; omega) | (change _ + 1 ≤ 6; omega)) ?_; (intro w H; simp only [Act.put]))
    | ((with_reducible show wpList _ _ _ (⟨_, .buildSlice 113 _ _, _, _, _, _⟩ :: _) _ _); refine H.bs1 rfl Tryd.underlying113 rB rfl rfl  (by rfl)  (by decide) rfl ?_; (intro g w H; simp only [Act.put, List.setIfInBounds_toArray, List.set_cons_zero, List.set_cons_succ]))
    | ((with_reducible show wpList _ _ _ (⟨_, .buildSlice 114 _ _, _, _, _, _⟩ :: _) _ _); refine H.bs1 rfl Tryd.underlying114 rP rfl rfl  (by rfl)  (by decide) rfl ?_; (intro g w H; simp only [Act.put, List.setIfInBounds_toArray, List.set_cons_zero, List.set_cons_succ]))
    | ((with_reducible show wpList _ _ _ (⟨_, .load 72 _, _, _, _, _⟩ :: _) _ _); refine H.ld rfl rP rfl rfl (by repeat (first | with_reducible exact List.mem_cons_self | apply List.mem_cons_of_mem)) (by first | with_reducible exact ext_parts _ _ _ _ | with_reducible exact ext_t0 _ _ _ _ _ _ _ _ _ _ _ _ | with_reducible exact ext_t1 _ _ _ _ _ _ _ _ _ _ _ _ | with_reducible exact ext_t2 _ _ _ _ _ _ _ _ _ _ _ _) (by rfl) ?_; simp only [Act.put, List.setIfInBounds_toArray, List.set_cons_zero, List.set_cons_succ])
    | ((with_reducible show wpList _ _ _ (⟨_, .load 54 _, _, _, _, _⟩ :: _) _ _); refine H.ld rfl rW rfl rfl (by repeat (first | with_reducible exact List.mem_cons_self | apply List.mem_cons_of_mem)) (by first | with_reducible exact ext_limbs _ | with_reducible exact ext_parts_s _ _ _ _ | with_reducible exact ext_rough_s _ _ _ _ | with_reducible exact ext_parts_f _ _ _ _) (by rfl) ?_; simp only [Act.put, List.setIfInBounds_toArray, List.set_cons_zero, List.set_cons_succ])
    | ((with_reducible show wpList _ _ _ (⟨_, .load 3 _, _, _, _, _⟩ :: _) _ _); refine H.ld1 rfl oI rfl rfl (by repeat (first | with_reducible exact List.mem_cons_self | apply List.mem_cons_of_mem)) (by first | with_reducible exact get_rough7 _ _ _ _ | with_reducible exact get_parts7 _ _ _ _ | with_reducible exact get_10 _) ?_; simp only [Act.put, List.setIfInBounds_toArray, List.set_cons_zero, List.set_cons_succ])
    | ((with_reducible show Code.wp _ (.region 13 _ true) _ _ _); refine H.heldSub rfl (List.Sublist.refl _) ?_; intro H; refine H.takeRun (by repeat (first | with_reducible exact List.Sublist.refl _ | with_reducible apply List.Sublist.cons_cons | with_reducible apply List.Sublist.cons)) 0 rfl (by kernel_rfl) (by kernel_rfl) (by kernel_rfl) (fun _ _ _ _ h => h) rfl (by intro w; go_simp; (try with_reducible rfl)) ?_; (try simp only [Act.put, List.setIfInBounds_toArray, List.set_cons_zero, List.set_cons_succ]); (try simp only [List.getElem_toArray, List.getElem_cons_zero, List.getElem_cons_succ]); refine H.takeRun (by repeat (first | with_reducible exact List.Sublist.refl _ | with_reducible apply List.Sublist.cons_cons | with_reducible apply List.Sublist.cons)) 4 rfl (by kernel_rfl) (by kernel_rfl) (by kernel_rfl) (fun _ _ _ _ h => h) rfl (by intro w; go_simp; (try with_reducible rfl)) ?_; (try simp only [Act.put, List.setIfInBounds_toArray, List.set_cons_zero, List.set_cons_succ]); (try simp only [List.getElem_toArray, List.getElem_cons_zero, List.getElem_cons_succ]); refine H.tk (by repeat (first | with_reducible exact List.Sublist.refl _ | with_reducible apply List.Sublist.cons_cons | with_reducible apply List.Sublist.cons)) 5 rfl (by kernel_rfl) (by kernel_rfl) (by kernel_rfl) (fun _ _ _ _ h => h) rfl rW rfl rfl (by repeat (first | with_reducible exact List.mem_cons_self | apply List.mem_cons_of_mem)) (by first | with_reducible exact ext_limbs _ | with_reducible exact ext_parts_s _ _ _ _ | with_reducible exact ext_rough_s _ _ _ _ | with_reducible exact ext_parts_f _ _ _ _) (by rfl) ?_; (try simp only [Act.put, List.setIfInBounds_toArray, List.set_cons_zero, List.set_cons_succ]); (try simp only [List.getElem_toArray, List.getElem_cons_zero, List.getElem_cons_succ]); refine held_one (i := 1) (by kernel_rfl) rfl rfl ?_; unfold Oper.wp; go_simp; (first | (go_at_call 65; ((with_reducible refine (cP _).mono ?_); rintro e w ⟨rfl, hb⟩; replace H := H.call hb; clear hb)) | (go_at_call 78; ((with_reducible refine (cl1 _).mono ?_); rintro e w ⟨rfl, hb⟩; replace H := H.call hb; clear hb))); refine H.next (by repeat (first | with_reducible exact List.Sublist.refl _ | with_reducible apply List.Sublist.cons_cons | with_reducible apply List.Sublist.cons)) ?_; (try simp only [Act.put, List.setIfInBounds_toArray, List.set_cons_zero, List.set_cons_succ]); (try simp only [List.getElem_toArray, List.getElem_cons_zero, List.getElem_cons_succ]); refine H.takeRun (by repeat (first | with_reducible exact List.Sublist.refl _ | with_reducible apply List.Sublist.cons_cons | with_reducible apply List.Sublist.cons)) 2 rfl (by kernel_rfl) (by kernel_rfl) (by kernel_rfl) (fun _ _ _ _ h => h) rfl (by intro w; go_simp; (try rw [v1]); (try with_reducible rfl)) ?_; (try simp only [Act.put, List.setIfInBounds_toArray, List.set_cons_zero, List.set_cons_succ]); (try simp only [List.getElem_toArray, List.getElem_cons_zero, List.getElem_cons_succ]); refine H.takeRun (by repeat (first | with_reducible exact List.Sublist.refl _ | with_reducible apply List.Sublist.cons_cons | with_reducible apply List.Sublist.cons)) 3 rfl (by kernel_rfl) (by kernel_rfl) (by kernel_rfl) (fun _ _ _ _ h => h) rfl (by intro w; go_simp; (try rw [v2]); (try with_reducible rfl)) ?_; (try simp only [Act.put, List.setIfInBounds_toArray, List.set_cons_zero, List.set_cons_succ]); (try simp only [List.getElem_toArray, List.getElem_cons_zero, List.getElem_cons_succ]); refine held_one (i := 6) (by kernel_rfl) rfl rfl ?_; unfold Oper.wp; go_simp; (first | (go_at_call 65; ((with_reducible refine (cP _).mono ?_); rintro e w ⟨rfl, hb⟩; replace H := H.call hb; clear hb)) | (go_at_call 78; ((with_reducible refine (cl1 _).mono ?_); rintro e w ⟨rfl, hb⟩; replace H := H.call hb; clear hb))); refine H.next (by repeat (first | with_reducible exact List.Sublist.refl _ | with_reducible apply List.Sublist.cons_cons | with_reducible apply List.Sublist.cons)) ?_; (try simp only [Act.put, List.setIfInBounds_toArray, List.set_cons_zero, List.set_cons_succ]); (try simp only [List.getElem_toArray, List.getElem_cons_zero, List.getElem_cons_succ]); refine H.takeRun (by repeat (first | with_reducible exact List.Sublist.refl _ | with_reducible apply List.Sublist.cons_cons | with_reducible apply List.Sublist.cons)) 7 rfl (by kernel_rfl) (by kernel_rfl) (by kernel_rfl) (fun _ _ _ _ h => h) rfl (by intro w; go_simp; (try rw [v3]); (try with_reducible rfl)) ?_; (try simp only [Act.put, List.setIfInBounds_toArray, List.set_cons_zero, List.set_cons_succ]); (try simp only [List.getElem_toArray, List.getElem_cons_zero, List.getElem_cons_succ]); refine held_one (i := 8) (by kernel_rfl) rfl rfl ?_; unfold Oper.wp; go_simp; (try refine H.next (by repeat (first | with_reducible exact List.Sublist.refl _ | with_reducible apply List.Sublist.cons_cons | with_reducible apply List.Sublist.cons)) ?_); (try simp only [Act.put, List.setIfInBounds_toArray, List.set_cons_zero, List.set_cons_succ]); (try simp only [List.getElem_toArray, List.getElem_cons_zero, List.getElem_cons_succ]); refine H.takeRun (by repeat (first | with_reducible exact List.Sublist.refl _ | with_reducible apply List.Sublist.cons_cons | with_reducible apply List.Sublist.cons)) 9 rfl (by kernel_rfl) (by kernel_rfl) (by kernel_rfl) (fun _ _ _ _ h => h) rfl (by intro w; go_simp; (try with_reducible rfl)) ?_; (try simp only [Act.put, List.setIfInBounds_toArray, List.set_cons_zero, List.set_cons_succ]); (try simp only [List.getElem_toArray, List.getElem_cons_zero, List.getElem_cons_succ]); refine wpAnyH_done (by kernel_rfl) ?_ _)
    | ((with_reducible show Code.wp _ (.region 18 _ true) _ _ _); refine H.heldSub rfl (List.Sublist.cons_cons _ (List.Sublist.cons_cons _ (List.Sublist.cons_cons _ (List.Sublist.cons_cons _ (List.Sublist.cons_cons _ (List.Sublist.cons_cons _ (List.Sublist.cons _ (List.Sublist.refl _)))))))) ?_; intro H; refine H.takeRun (by repeat (first | with_reducible exact List.Sublist.refl _ | with_reducible apply List.Sublist.cons_cons | with_reducible apply List.Sublist.cons)) 0 rfl (by kernel_rfl) (by kernel_rfl) (by kernel_rfl) (fun _ _ _ _ h => h) rfl (by intro w; go_simp; (try with_reducible rfl)) ?_; (try simp only [Act.put, List.setIfInBounds_toArray, List.set_cons_zero, List.set_cons_succ]); (try simp only [List.getElem_toArray, List.getElem_cons_zero, List.getElem_cons_succ]); refine H.takeRun (by repeat (first | with_reducible exact List.Sublist.refl _ | with_reducible apply List.Sublist.cons_cons | with_reducible apply List.Sublist.cons)) 1 rfl (by kernel_rfl) (by kernel_rfl) (by kernel_rfl) (fun _ _ _ _ h => h) rfl (by intro w; go_simp; (try with_reducible rfl)) ?_; (try simp only [Act.put, List.setIfInBounds_toArray, List.set_cons_zero, List.set_cons_succ]); (try simp only [List.getElem_toArray, List.getElem_cons_zero, List.getElem_cons_succ]); (first | refine H.tk (by repeat (first | with_reducible exact List.Sublist.refl _ | with_reducible apply List.Sublist.cons_cons | with_reducible apply List.Sublist.cons)) 2 rfl (by kernel_rfl) (by kernel_rfl) (by kernel_rfl) (fun _ _ _ _ h => h) rfl rW rfl rfl (by repeat (first | with_reducible exact List.mem_cons_self | apply List.mem_cons_of_mem)) (by first | with_reducible exact ext_limbs _ | with_reducible exact ext_parts_s _ _ _ _ | with_reducible exact ext_rough_s _ _ _ _ | with_reducible exact ext_parts_f _ _ _ _) (by rfl) ?_ | refine H.tk1 (by repeat (first | with_reducible exact List.Sublist.refl _ | with_reducible apply List.Sublist.cons_cons | with_reducible apply List.Sublist.cons)) 2 rfl (by kernel_rfl) (by kernel_rfl) (by kernel_rfl) (fun _ _ _ _ h => h) rfl oI rfl rfl (by repeat (first | with_reducible exact List.mem_cons_self | apply List.mem_cons_of_mem)) (by first | with_reducible exact get_rough7 _ _ _ _ | with_reducible exact get_parts7 _ _ _ _ | with_reducible exact get_10 _) ?_); (try simp only [Act.put, List.setIfInBounds_toArray, List.set_cons_zero, List.set_cons_succ]); (try simp only [List.getElem_toArray, List.getElem_cons_zero, List.getElem_cons_succ]); refine H.takeRun (by repeat (first | with_reducible exact List.Sublist.refl _ | with_reducible apply List.Sublist.cons_cons | with_reducible apply List.Sublist.cons)) 3 rfl (by kernel_rfl) (by kernel_rfl) (by kernel_rfl) (fun _ _ _ _ h => h) rfl (by intro w; go_simp; (try with_reducible rfl)) ?_; (try simp only [Act.put, List.setIfInBounds_toArray, List.set_cons_zero, List.set_cons_succ]); (try simp only [List.getElem_toArray, List.getElem_cons_zero, List.getElem_cons_succ]); (first | refine H.tk (by repeat (first | with_reducible exact List.Sublist.refl _ | with_reducible apply List.Sublist.cons_cons | with_reducible apply List.Sublist.cons)) 4 rfl (by kernel_rfl) (by kernel_rfl) (by kernel_rfl) (fun _ _ _ _ h => h) rfl rW rfl rfl (by repeat (first | with_reducible exact List.mem_cons_self | apply List.mem_cons_of_mem)) (by first | with_reducible exact ext_limbs _ | with_reducible exact ext_parts_s _ _ _ _ | with_reducible exact ext_rough_s _ _ _ _ | with_reducible exact ext_parts_f _ _ _ _) (by rfl) ?_ | refine H.tk1 (by repeat (first | with_reducible exact List.Sublist.refl _ | with_reducible apply List.Sublist.cons_cons | with_reducible apply List.Sublist.cons)) 4 rfl (by kernel_rfl) (by kernel_rfl) (by kernel_rfl) (fun _ _ _ _ h => h) rfl oI rfl rfl (by repeat (first | with_reducible exact List.mem_cons_self | apply List.mem_cons_of_mem)) (by first | with_reducible exact get_rough7 _ _ _ _ | with_reducible exact get_parts7 _ _ _ _ | with_reducible exact get_10 _) ?_); (try simp only [Act.put, List.setIfInBounds_toArray, List.set_cons_zero, List.set_cons_succ]); (try simp only [List.getElem_toArray, List.getElem_cons_zero, List.getElem_cons_succ]); refine H.takeRun (by repeat (first | with_reducible exact List.Sublist.refl _ | with_reducible apply List.Sublist.cons_cons | with_reducible apply List.Sublist.cons)) 5 rfl (by kernel_rfl) (by kernel_rfl) (by kernel_rfl) (fun _ _ _ _ h => h) rfl (by intro w; go_simp; (try with_reducible rfl)) ?_; (try simp only [Act.put, List.setIfInBounds_toArray, List.set_cons_zero, List.set_cons_succ]); (try simp only [List.getElem_toArray, List.getElem_cons_zero, List.getElem_cons_succ]); refine H.takeRun (by repeat (first | with_reducible exact List.Sublist.refl _ | with_reducible apply List.Sublist.cons_cons | with_reducible apply List.Sublist.cons)) 6 rfl (by kernel_rfl) (by kernel_rfl) (by kernel_rfl) (fun _ _ _ _ h => h) rfl (by intro w; go_simp; (try rw [v5]); (try with_reducible rfl)) ?_; (try simp only [Act.put, List.setIfInBounds_toArray, List.set_cons_zero, List.set_cons_succ]); (try simp only [List.getElem_toArray, List.getElem_cons_zero, List.getElem_cons_succ]); refine H.takeRun (by repeat (first | with_reducible exact List.Sublist.refl _ | with_reducible apply List.Sublist.cons_cons | with_reducible apply List.Sublist.cons)) 7 rfl (by kernel_rfl) (by kernel_rfl) (by kernel_rfl) (fun _ _ _ _ h => h) rfl (by intro w; go_simp; (try with_reducible rfl)) ?_; (try simp only [Act.put, List.setIfInBounds_toArray, List.set_cons_zero, List.set_cons_succ]); (try simp only [List.getElem_toArray, List.getElem_cons_zero, List.getElem_cons_succ]); (first | refine H.tk (by repeat (first | with_reducible exact List.Sublist.refl _ | with_reducible apply List.Sublist.cons_cons | with_reducible apply List.Sublist.cons)) 8 rfl (by kernel_rfl) (by kernel_rfl) (by kernel_rfl) (fun _ _ _ _ h => h) rfl rW rfl rfl (by repeat (first | with_reducible exact List.mem_cons_self | apply List.mem_cons_of_mem)) (by first | with_reducible exact ext_limbs _ | with_reducible exact ext_parts_s _ _ _ _ | with_reducible exact ext_rough_s _ _ _ _ | with_reducible exact ext_parts_f _ _ _ _) (by rfl) ?_ | refine H.tk1 (by repeat (first | with_reducible exact List.Sublist.refl _ | with_reducible apply List.Sublist.cons_cons | with_reducible apply List.Sublist.cons)) 8 rfl (by kernel_rfl) (by kernel_rfl) (by kernel_rfl) (fun _ _ _ _ h => h) rfl oI rfl rfl (by repeat (first | with_reducible exact List.mem_cons_self | apply List.mem_cons_of_mem)) (by first | with_reducible exact get_rough7 _ _ _ _ | with_reducible exact get_parts7 _ _ _ _ | with_reducible exact get_10 _) ?_); (try simp only [Act.put, List.setIfInBounds_toArray, List.set_cons_zero, List.set_cons_succ]); (try simp only [List.getElem_toArray, List.getElem_cons_zero, List.getElem_cons_succ]); refine H.takeRun (by repeat (first | with_reducible exact List.Sublist.refl _ | with_reducible apply List.Sublist.cons_cons | with_reducible apply List.Sublist.cons)) 9 rfl (by kernel_rfl) (by kernel_rfl) (by kernel_rfl) (fun _ _ _ _ h => h) rfl (by intro w; go_simp; (try with_reducible rfl)) ?_; (try simp only [Act.put, List.setIfInBounds_toArray, List.set_cons_zero, List.set_cons_succ]); (try simp only [List.getElem_toArray, List.getElem_cons_zero, List.getElem_cons_succ]); refine H.takeRun (by repeat (first | with_reducible exact List.Sublist.refl _ | with_reducible apply List.Sublist.cons_cons | with_reducible apply List.Sublist.cons)) 10 rfl (by kernel_rfl) (by kernel_rfl) (by kernel_rfl) (fun _ _ _ _ h => h) rfl (by intro w; go_simp; (try with_reducible rfl)) ?_; (try simp only [Act.put, List.setIfInBounds_toArray, List.set_cons_zero, List.set_cons_succ]); (try simp only [List.getElem_toArray, List.getElem_cons_zero, List.getElem_cons_succ]); refine H.takeRun (by repeat (first | with_reducible exact List.Sublist.refl _ | with_reducible apply List.Sublist.cons_cons | with_reducible apply List.Sublist.cons)) 11 rfl (by kernel_rfl) (by kernel_rfl) (by kernel_rfl) (fun _ _ _ _ h => h) rfl (by intro w; refine exec_bld3 (u1 := W q) (u2 := .int .i64 ((x1 - (max 0 (2 * ((p : Int) + 3) - (l1 : Int)))) / 2)) (u3 := .bool (!decide (d = 0))) rfl ?_ ?_ ?_ (rough_sem q ((x1 - (max 0 (2 * ((p : Int) + 3) - (l1 : Int)))) / 2) (!decide (d = 0))) w <;> (go_simp; done)) ?_; (try simp only [Act.put, List.setIfInBounds_toArray, List.set_cons_zero, List.set_cons_succ]); (try simp only [List.getElem_toArray, List.getElem_cons_zero, List.getElem_cons_succ]); refine held_one (i := 12) (by kernel_rfl) rfl rfl ?_; unfold Oper.wp; go_simp; (go_at_call 32; ((with_reducible refine (cK _ (HT.out.below H.below)).mono ?_); rintro e w ⟨rfl, hb⟩; replace H := H.call hb; clear hb)); refine H.next (by repeat (first | with_reducible exact List.Sublist.refl _ | with_reducible apply List.Sublist.cons_cons | with_reducible apply List.Sublist.cons)) ?_; (try simp only [Act.put, List.setIfInBounds_toArray, List.set_cons_zero, List.set_cons_succ]); (try simp only [List.getElem_toArray, List.getElem_cons_zero, List.getElem_cons_succ]); refine H.takeRun (by repeat (first | with_reducible exact List.Sublist.refl _ | with_reducible apply List.Sublist.cons_cons | with_reducible apply List.Sublist.cons)) 13 rfl (by kernel_rfl) (by kernel_rfl) (by kernel_rfl) (fun _ _ _ _ h => h) rfl (by intro w; go_simp; (try with_reducible rfl)) ?_; (try simp only [Act.put, List.setIfInBounds_toArray, List.set_cons_zero, List.set_cons_succ]); (try simp only [List.getElem_toArray, List.getElem_cons_zero, List.getElem_cons_succ]); refine H.takeRun (by repeat (first | with_reducible exact List.Sublist.refl _ | with_reducible apply List.Sublist.cons_cons | with_reducible apply List.Sublist.cons)) 14 rfl (by kernel_rfl) (by kernel_rfl) (by kernel_rfl) (fun _ _ _ _ h => h) rfl (by intro w; go_simp; (try with_reducible rfl)) ?_; (try simp only [Act.put, List.setIfInBounds_toArray, List.set_cons_zero, List.set_cons_succ]); (try simp only [List.getElem_toArray, List.getElem_cons_zero, List.getElem_cons_succ]); refine H.takeRun (by repeat (first | with_reducible exact List.Sublist.refl _ | with_reducible apply List.Sublist.cons_cons | with_reducible apply List.Sublist.cons)) 15 rfl (by kernel_rfl) (by kernel_rfl) (by kernel_rfl) (fun _ _ _ _ h => h) rfl (by intro w; go_simp; (try with_reducible rfl)) ?_; (try simp only [Act.put, List.setIfInBounds_toArray, List.set_cons_zero, List.set_cons_succ]); (try simp only [List.getElem_toArray, List.getElem_cons_zero, List.getElem_cons_succ]); refine held_one (i := 16) (by kernel_rfl) rfl rfl ?_; refine H.ost rB rfl rfl (cells_agg _) (by repeat (first | with_reducible exact Upd.head _ | apply Upd.tail)) (set_bits _ _ _ _) (by rfl) (by exact one_of rfl) (by first | exact ble_le rfl | (change _ + 1 ≤ 12; omega) | (change _ + 1 ≤ 6; omega)) ?_; intro w H; refine H.next (by repeat (first | with_reducible exact List.Sublist.refl _ | with_reducible apply List.Sublist.cons_cons | with_reducible apply List.Sublist.cons)) ?_; (try simp only [Act.put]); refine H.takeRun (by repeat (first | with_reducible exact List.Sublist.refl _ | with_reducible apply List.Sublist.cons_cons | with_reducible apply List.Sublist.cons)) 17 rfl (by kernel_rfl) (by kernel_rfl) (by kernel_rfl) (fun _ _ _ _ h => h) rfl (by intro w; go_simp; (try with_reducible rfl)) ?_; (try simp only [Act.put, List.setIfInBounds_toArray, List.set_cons_zero, List.set_cons_succ]); (try simp only [List.getElem_toArray, List.getElem_cons_zero, List.getElem_cons_succ]); refine H.takeRun (by repeat (first | with_reducible exact List.Sublist.refl _ | with_reducible apply List.Sublist.cons_cons | with_reducible apply List.Sublist.cons)) 18 rfl (by kernel_rfl) (by kernel_rfl) (by kernel_rfl) (fun _ _ _ _ h => h) rfl (by intro w; go_simp; (try with_reducible rfl)) ?_; (try simp only [Act.put, List.setIfInBounds_toArray, List.set_cons_zero, List.set_cons_succ]); (try simp only [List.getElem_toArray, List.getElem_cons_zero, List.getElem_cons_succ]); refine wpAnyH_done (by kernel_rfl) ?_ _)
    | ((with_reducible show Code.wp _ (.region 18 _ true) _ _ _); refine H.heldSub rfl (List.Sublist.cons_cons _ (List.Sublist.cons_cons _ (List.Sublist.cons_cons _ (List.Sublist.cons_cons _ (List.Sublist.cons_cons _ (List.Sublist.cons_cons _ (List.Sublist.cons _ (List.Sublist.refl _)))))))) ?_; intro H; refine H.takeRun (by repeat (first | with_reducible exact List.Sublist.refl _ | with_reducible apply List.Sublist.cons_cons | with_reducible apply List.Sublist.cons)) 0 rfl (by kernel_rfl) (by kernel_rfl) (by kernel_rfl) (fun _ _ _ _ h => h) rfl (by intro w; go_simp; (try with_reducible rfl)) ?_; (try simp only [Act.put, List.setIfInBounds_toArray, List.set_cons_zero, List.set_cons_succ]); (try simp only [List.getElem_toArray, List.getElem_cons_zero, List.getElem_cons_succ]); refine H.takeRun (by repeat (first | with_reducible exact List.Sublist.refl _ | with_reducible apply List.Sublist.cons_cons | with_reducible apply List.Sublist.cons)) 1 rfl (by kernel_rfl) (by kernel_rfl) (by kernel_rfl) (fun _ _ _ _ h => h) rfl (by intro w; go_simp; (try with_reducible rfl)) ?_; (try simp only [Act.put, List.setIfInBounds_toArray, List.set_cons_zero, List.set_cons_succ]); (try simp only [List.getElem_toArray, List.getElem_cons_zero, List.getElem_cons_succ]); (first | refine H.tk (by repeat (first | with_reducible exact List.Sublist.refl _ | with_reducible apply List.Sublist.cons_cons | with_reducible apply List.Sublist.cons)) 2 rfl (by kernel_rfl) (by kernel_rfl) (by kernel_rfl) (fun _ _ _ _ h => h) rfl rW rfl rfl (by repeat (first | with_reducible exact List.mem_cons_self | apply List.mem_cons_of_mem)) (by first | with_reducible exact ext_limbs _ | with_reducible exact ext_parts_s _ _ _ _ | with_reducible exact ext_rough_s _ _ _ _ | with_reducible exact ext_parts_f _ _ _ _) (by rfl) ?_ | refine H.tk1 (by repeat (first | with_reducible exact List.Sublist.refl _ | with_reducible apply List.Sublist.cons_cons | with_reducible apply List.Sublist.cons)) 2 rfl (by kernel_rfl) (by kernel_rfl) (by kernel_rfl) (fun _ _ _ _ h => h) rfl oI rfl rfl (by repeat (first | with_reducible exact List.mem_cons_self | apply List.mem_cons_of_mem)) (by first | with_reducible exact get_rough7 _ _ _ _ | with_reducible exact get_parts7 _ _ _ _ | with_reducible exact get_10 _) ?_); (try simp only [Act.put, List.setIfInBounds_toArray, List.set_cons_zero, List.set_cons_succ]); (try simp only [List.getElem_toArray, List.getElem_cons_zero, List.getElem_cons_succ]); refine H.takeRun (by repeat (first | with_reducible exact List.Sublist.refl _ | with_reducible apply List.Sublist.cons_cons | with_reducible apply List.Sublist.cons)) 3 rfl (by kernel_rfl) (by kernel_rfl) (by kernel_rfl) (fun _ _ _ _ h => h) rfl (by intro w; go_simp; (try with_reducible rfl)) ?_; (try simp only [Act.put, List.setIfInBounds_toArray, List.set_cons_zero, List.set_cons_succ]); (try simp only [List.getElem_toArray, List.getElem_cons_zero, List.getElem_cons_succ]); (first | refine H.tk (by repeat (first | with_reducible exact List.Sublist.refl _ | with_reducible apply List.Sublist.cons_cons | with_reducible apply List.Sublist.cons)) 4 rfl (by kernel_rfl) (by kernel_rfl) (by kernel_rfl) (fun _ _ _ _ h => h) rfl rW rfl rfl (by repeat (first | with_reducible exact List.mem_cons_self | apply List.mem_cons_of_mem)) (by first | with_reducible exact ext_limbs _ | with_reducible exact ext_parts_s _ _ _ _ | with_reducible exact ext_rough_s _ _ _ _ | with_reducible exact ext_parts_f _ _ _ _) (by rfl) ?_ | refine H.tk1 (by repeat (first | with_reducible exact List.Sublist.refl _ | with_reducible apply List.Sublist.cons_cons | with_reducible apply List.Sublist.cons)) 4 rfl (by kernel_rfl) (by kernel_rfl) (by kernel_rfl) (fun _ _ _ _ h => h) rfl oI rfl rfl (by repeat (first | with_reducible exact List.mem_cons_self | apply List.mem_cons_of_mem)) (by first | with_reducible exact get_rough7 _ _ _ _ | with_reducible exact get_parts7 _ _ _ _ | with_reducible exact get_10 _) ?_); (try simp only [Act.put, List.setIfInBounds_toArray, List.set_cons_zero, List.set_cons_succ]); (try simp only [List.getElem_toArray, List.getElem_cons_zero, List.getElem_cons_succ]); refine H.takeRun (by repeat (first | with_reducible exact List.Sublist.refl _ | with_reducible apply List.Sublist.cons_cons | with_reducible apply List.Sublist.cons)) 5 rfl (by kernel_rfl) (by kernel_rfl) (by kernel_rfl) (fun _ _ _ _ h => h) rfl (by intro w; go_simp; (try with_reducible rfl)) ?_; (try simp only [Act.put, List.setIfInBounds_toArray, List.set_cons_zero, List.set_cons_succ]); (try simp only [List.getElem_toArray, List.getElem_cons_zero, List.getElem_cons_succ]); refine H.takeRun (by repeat (first | with_reducible exact List.Sublist.refl _ | with_reducible apply List.Sublist.cons_cons | with_reducible apply List.Sublist.cons)) 6 rfl (by kernel_rfl) (by kernel_rfl) (by kernel_rfl) (fun _ _ _ _ h => h) rfl (by intro w; go_simp; (try rw [v5]); (try with_reducible rfl)) ?_; (try simp only [Act.put, List.setIfInBounds_toArray, List.set_cons_zero, List.set_cons_succ]); (try simp only [List.getElem_toArray, List.getElem_cons_zero, List.getElem_cons_succ]); refine H.takeRun (by repeat (first | with_reducible exact List.Sublist.refl _ | with_reducible apply List.Sublist.cons_cons | with_reducible apply List.Sublist.cons)) 7 rfl (by kernel_rfl) (by kernel_rfl) (by kernel_rfl) (fun _ _ _ _ h => h) rfl (by intro w; go_simp; (try with_reducible rfl)) ?_; (try simp only [Act.put, List.setIfInBounds_toArray, List.set_cons_zero, List.set_cons_succ]); (try simp only [List.getElem_toArray, List.getElem_cons_zero, List.getElem_cons_succ]); (first | refine H.tk (by repeat (first | with_reducible exact List.Sublist.refl _ | with_reducible apply List.Sublist.cons_cons | with_reducible apply List.Sublist.cons)) 8 rfl (by kernel_rfl) (by kernel_rfl) (by kernel_rfl) (fun _ _ _ _ h => h) rfl rW rfl rfl (by repeat (first | with_reducible exact List.mem_cons_self | apply List.mem_cons_of_mem)) (by first | with_reducible exact ext_limbs _ | with_reducible exact ext_parts_s _ _ _ _ | with_reducible exact ext_rough_s _ _ _ _ | with_reducible exact ext_parts_f _ _ _ _) (by rfl) ?_ | refine H.tk1 (by repeat (first | with_reducible exact List.Sublist.refl _ | with_reducible apply List.Sublist.cons_cons | with_reducible apply List.Sublist.cons)) 8 rfl (by kernel_rfl) (by kernel_rfl) (by kernel_rfl) (fun _ _ _ _ h => h) rfl oI rfl rfl (by repeat (first | with_reducible exact List.mem_cons_self | apply List.mem_cons_of_mem)) (by first | with_reducible exact get_rough7 _ _ _ _ | with_reducible exact get_parts7 _ _ _ _ | with_reducible exact get_10 _) ?_); (try simp only [Act.put, List.setIfInBounds_toArray, List.set_cons_zero, List.set_cons_succ]); (try simp only [List.getElem_toArray, List.getElem_cons_zero, List.getElem_cons_succ]); refine H.takeRun (by repeat (first | with_reducible exact List.Sublist.refl _ | with_reducible apply List.Sublist.cons_cons | with_reducible apply List.Sublist.cons)) 9 rfl (by kernel_rfl) (by kernel_rfl) (by kernel_rfl) (fun _ _ _ _ h => h) rfl (by intro w; go_simp; (try with_reducible rfl)) ?_; (try simp only [Act.put, List.setIfInBounds_toArray, List.set_cons_zero, List.set_cons_succ]); (try simp only [List.getElem_toArray, List.getElem_cons_zero, List.getElem_cons_succ]); refine H.takeRun (by repeat (first | with_reducible exact List.Sublist.refl _ | with_reducible apply List.Sublist.cons_cons | with_reducible apply List.Sublist.cons)) 10 rfl (by kernel_rfl) (by kernel_rfl) (by kernel_rfl) (fun _ _ _ _ h => h) rfl (by intro w; go_simp; (try with_reducible rfl)) ?_; (try simp only [Act.put, List.setIfInBounds_toArray, List.set_cons_zero, List.set_cons_succ]); (try simp only [List.getElem_toArray, List.getElem_cons_zero, List.getElem_cons_succ]); refine H.takeRun (by repeat (first | with_reducible exact List.Sublist.refl _ | with_reducible apply List.Sublist.cons_cons | with_reducible apply List.Sublist.cons)) 11 rfl (by kernel_rfl) (by kernel_rfl) (by kernel_rfl) (fun _ _ _ _ h => h) rfl (by intro w; refine exec_bld3 (u1 := W q) (u2 := .int .i64 ((x1 - ((max 0 (2 * ((p : Int) + 3) - (l1 : Int))) + 1)) / 2)) (u3 := .bool (!decide (d = 0))) rfl ?_ ?_ ?_ (rough_sem q ((x1 - ((max 0 (2 * ((p : Int) + 3) - (l1 : Int))) + 1)) / 2) (!decide (d = 0))) w <;> (go_simp; done)) ?_; (try simp only [Act.put, List.setIfInBounds_toArray, List.set_cons_zero, List.set_cons_succ]); (try simp only [List.getElem_toArray, List.getElem_cons_zero, List.getElem_cons_succ]); refine held_one (i := 12) (by kernel_rfl) rfl rfl ?_; unfold Oper.wp; go_simp; (go_at_call 32; ((with_reducible refine (cK _ (HT.out.below H.below)).mono ?_); rintro e w ⟨rfl, hb⟩; replace H := H.call hb; clear hb)); refine H.next (by repeat (first | with_reducible exact List.Sublist.refl _ | with_reducible apply List.Sublist.cons_cons | with_reducible apply List.Sublist.cons)) ?_; (try simp only [Act.put, List.setIfInBounds_toArray, List.set_cons_zero, List.set_cons_succ]); (try simp only [List.getElem_toArray, List.getElem_cons_zero, List.getElem_cons_succ]); refine H.takeRun (by repeat (first | with_reducible exact List.Sublist.refl _ | with_reducible apply List.Sublist.cons_cons | with_reducible apply List.Sublist.cons)) 13 rfl (by kernel_rfl) (by kernel_rfl) (by kernel_rfl) (fun _ _ _ _ h => h) rfl (by intro w; go_simp; (try with_reducible rfl)) ?_; (try simp only [Act.put, List.setIfInBounds_toArray, List.set_cons_zero, List.set_cons_succ]); (try simp only [List.getElem_toArray, List.getElem_cons_zero, List.getElem_cons_succ]); refine H.takeRun (by repeat (first | with_reducible exact List.Sublist.refl _ | with_reducible apply List.Sublist.cons_cons | with_reducible apply List.Sublist.cons)) 14 rfl (by kernel_rfl) (by kernel_rfl) (by kernel_rfl) (fun _ _ _ _ h => h) rfl (by intro w; go_simp; (try with_reducible rfl)) ?_; (try simp only [Act.put, List.setIfInBounds_toArray, List.set_cons_zero, List.set_cons_succ]); (try simp only [List.getElem_toArray, List.getElem_cons_zero, List.getElem_cons_succ]); refine H.takeRun (by repeat (first | with_reducible exact List.Sublist.refl _ | with_reducible apply List.Sublist.cons_cons | with_reducible apply List.Sublist.cons)) 15 rfl (by kernel_rfl) (by kernel_rfl) (by kernel_rfl) (fun _ _ _ _ h => h) rfl (by intro w; go_simp; (try with_reducible rfl)) ?_; (try simp only [Act.put, List.setIfInBounds_toArray, List.set_cons_zero, List.set_cons_succ]); (try simp only [List.getElem_toArray, List.getElem_cons_zero, List.getElem_cons_succ]); refine held_one (i := 16) (by kernel_rfl) rfl rfl ?_; refine H.ost rB rfl rfl (cells_agg _) (by repeat (first | with_reducible exact Upd.head _ | apply Upd.tail)) (set_bits _ _ _ _) (by rfl) (by exact one_of rfl) (by first | exact ble_le rfl | (change _ + 1 ≤ 12; omega) | (change _ + 1 ≤ 6; omega)) ?_; intro w H; refine H.next (by repeat (first | with_reducible exact List.Sublist.refl _ | with_reducible apply List.Sublist.cons_cons | with_reducible apply List.Sublist.cons)) ?_; (try simp only [Act.put]); refine H.takeRun (by repeat (first | with_reducible exact List.Sublist.refl _ | with_reducible apply List.Sublist.cons_cons | with_reducible apply List.Sublist.cons)) 17 rfl (by kernel_rfl) (by kernel_rfl) (by kernel_rfl) (fun _ _ _ _ h => h) rfl (by intro w; go_simp; (try with_reducible rfl)) ?_; (try simp only [Act.put, List.setIfInBounds_toArray, List.set_cons_zero, List.set_cons_succ]); (try simp only [List.getElem_toArray, List.getElem_cons_zero, List.getElem_cons_succ]); refine H.takeRun (by repeat (first | with_reducible exact List.Sublist.refl _ | with_reducible apply List.Sublist.cons_cons | with_reducible apply List.Sublist.cons)) 18 rfl (by kernel_rfl) (by kernel_rfl) (by kernel_rfl) (fun _ _ _ _ h => h) rfl (by intro w; go_simp; (try with_reducible rfl)) ?_; (try simp only [Act.put, List.setIfInBounds_toArray, List.set_cons_zero, List.set_cons_succ]); (try simp only [List.getElem_toArray, List.getElem_cons_zero, List.getElem_cons_succ]); refine wpAnyH_done (by kernel_rfl) ?_ _)
    | (go_at_call 72; ((with_reducible refine (cO _ _ (HT.out.below H.below) (H.blk (_, 27, _) (by repeat (first | with_reducible exact List.mem_cons_self | apply List.mem_cons_of_mem)))).mono ?_); rintro e w ⟨rfl, hb⟩; replace H := H.call hb; clear hb))
    | (go_at_call 73; ((with_reducible refine (cn1 _).mono ?_); rintro e w ⟨rfl, hb⟩; replace H := H.call hb; clear hb))
    | (go_at_call 74; ((with_reducible refine (cC _ _ (H.blk (_, 72, _) (by repeat (first | with_reducible exact List.mem_cons_self | apply List.mem_cons_of_mem)))).mono ?_); rintro e w ⟨rfl, hb⟩; replace H := H.call hb; clear hb))
    | (go_at_call 75; ((with_reducible refine (cz1 _).mono ?_); rintro e w ⟨rfl, hb⟩; replace H := H.call hb; clear hb))
    | (go_at_call 76; ((with_reducible refine (cb1 _).mono ?_); rintro e w ⟨rfl, hb⟩; replace H := H.call hb; clear hb))
    | (go_at_call 24; ((with_reducible refine (cNN _).mono ?_); rintro e w ⟨rfl, hb⟩; replace H := H.call hb; clear hb))
    | (go_at_call 77; ((with_reducible refine (ci1 _).mono ?_); rintro e w ⟨rfl, hb⟩; replace H := H.call hb; clear hb))
    | (go_at_call 48; ((with_reducible refine (cL _).mono ?_); rintro e w ⟨rfl, hb⟩; replace H := H.call hb; clear hb))
    | (go_at_call 79; ((with_reducible refine (cQ _).mono ?_); rintro e w ⟨rfl, hb⟩; replace H := H.call hb; clear hb))
    )
  all_goals (first | (refine bodyPost_ret (results_ctt rfl rfl (H.res rB (by repeat (first | with_reducible exact List.mem_cons_self | apply List.mem_cons_of_mem)) (by first | with_reducible exact ext_2 _ _) (by rfl))) rfl ⟨?_, H.below⟩; exact by rw [show BV 0 = .agg #[.int .u64 (limb 0 1), .int .u64 (limb 0 0)] from rfl, limb_zero, limb_zero]; rfl) | (refine bodyPost_ret (results_ctt rfl rfl (H.res rB (by repeat (first | with_reducible exact List.mem_cons_self | apply List.mem_cons_of_mem)) (by first | with_reducible exact ext_2 _ _) (by rfl))) rfl ⟨?_, H.below⟩; exact rfl))) : P := h
set_option maxHeartbeats 1600000 in
set_option maxRecDepth 100000 in
theorem sqrtSqrt_no (f m a : Nat) (c1 s1 f1 : Nat) (x1 : Int) (c2 s2 f2 : Nat) (x2 : Int) (c3 s3 f3 : Nat) (x3 : Int) (w : World) (hT : Tab w) (cO : ∀ w g, Tab w → Blk 27 w g (bc a) → Calls Tryd.prog 72 #[.int .u8 f, .int .u8 m, .slice (some ⟨g, 0, none⟩) 1 1] w fun e w' => e = .returned (.tuple #[.agg (tri c1 s1 x1 f1 c2 s2 x2 f2 c3 s3 x3 f3), .bool false]) ∧ Below w.heap.size w w') :
    Calls Tryd.prog 28 #[.int .u8 f, .int .u8 m, BV a] w fun e w' => e = .returned (.tuple #[BV 0, .int .u8 0, .int .i64 2]) ∧ Below w.heap.size w w' := by
  have H := Own.start w
  have HT := Lib.hid hT
  clear hT
  go_enter Tryd.func28, Tryd.ntmps28
  exact walk28
set_option maxHeartbeats 1600000 in
set_option maxRecDepth 100000 in
theorem sqrtSqrt_N (f m a : Nat) (c1 s1 f1 : Nat) (x1 : Int) (c2 s2 f2 : Nat) (x2 : Int) (c3 s3 f3 : Nat) (x3 : Int) (w : World) (hT : Tab w) (cO : ∀ w g, Tab w → Blk 27 w g (bc a) → Calls Tryd.prog 72 #[.int .u8 f, .int .u8 m, .slice (some ⟨g, 0, none⟩) 1 1] w fun e w' => e = .returned (.tuple #[.agg (tri c1 s1 x1 f1 c2 s2 x2 f2 c3 s3 x3 f3), .bool true]) ∧ Below w.heap.size w w') (cn1 : ∀ w, Calls Tryd.prog 73 #[PV c1 s1 x1 f1] w fun e w' => e = .returned (.bool true) ∧ Below w.heap.size w w') (cn : Nat) (fl : Int) (cC : ∀ w g, Blk 72 w g (parts c1 s1 x1 f1) → Calls Tryd.prog 74 #[.int .u8 f, .slice (some ⟨g, 0, none⟩) 1 1] w fun e w' => e = .returned (.tuple #[BV cn, .int .u8 fl, .int .i64 0]) ∧ Below w.heap.size w w') :
    Calls Tryd.prog 28 #[.int .u8 f, .int .u8 m, BV a] w fun e w' => e = .returned (.tuple #[BV cn, .int .u8 fl, .int .i64 0]) ∧ Below w.heap.size w w' := by
  have H := Own.start w
  have HT := Lib.hid hT
  clear hT
  go_enter Tryd.func28, Tryd.ntmps28
  exact walk28
set_option maxHeartbeats 1600000 in
set_option maxRecDepth 100000 in
theorem sqrtSqrt_Z (f m a : Nat) (c1 s1 f1 : Nat) (x1 : Int) (c2 s2 f2 : Nat) (x2 : Int) (c3 s3 f3 : Nat) (x3 : Int) (w : World) (hT : Tab w) (cO : ∀ w g, Tab w → Blk 27 w g (bc a) → Calls Tryd.prog 72 #[.int .u8 f, .int .u8 m, .slice (some ⟨g, 0, none⟩) 1 1] w fun e w' => e = .returned (.tuple #[.agg (tri c1 s1 x1 f1 c2 s2 x2 f2 c3 s3 x3 f3), .bool true]) ∧ Below w.heap.size w w') (cn1 : ∀ w, Calls Tryd.prog 73 #[PV c1 s1 x1 f1] w fun e w' => e = .returned (.bool false) ∧ Below w.heap.size w w') (cz1 : ∀ w, Calls Tryd.prog 75 #[PV c1 s1 x1 f1] w fun e w' => e = .returned (.bool true) ∧ Below w.heap.size w w')  :
    Calls Tryd.prog 28 #[.int .u8 f, .int .u8 m, BV a] w fun e w' => e = .returned (.tuple #[BV a, .int .u8 0, .int .i64 0]) ∧ Below w.heap.size w w' := by
  have H := Own.start w
  have HT := Lib.hid hT
  clear hT
  go_enter Tryd.func28, Tryd.ntmps28
  exact walk28
set_option maxHeartbeats 1600000 in
set_option maxRecDepth 100000 in
theorem sqrtSqrt_B (f m a : Nat) (c1 s1 f1 : Nat) (x1 : Int) (c2 s2 f2 : Nat) (x2 : Int) (c3 s3 f3 : Nat) (x3 : Int) (w : World) (hT : Tab w) (cO : ∀ w g, Tab w → Blk 27 w g (bc a) → Calls Tryd.prog 72 #[.int .u8 f, .int .u8 m, .slice (some ⟨g, 0, none⟩) 1 1] w fun e w' => e = .returned (.tuple #[.agg (tri c1 s1 x1 f1 c2 s2 x2 f2 c3 s3 x3 f3), .bool true]) ∧ Below w.heap.size w w') (cn1 : ∀ w, Calls Tryd.prog 73 #[PV c1 s1 x1 f1] w fun e w' => e = .returned (.bool false) ∧ Below w.heap.size w w') (cz1 : ∀ w, Calls Tryd.prog 75 #[PV c1 s1 x1 f1] w fun e w' => e = .returned (.bool false) ∧ Below w.heap.size w w') (cb1 : ∀ w, Calls Tryd.prog 76 #[PV c1 s1 x1 f1] w fun e w' => e = .returned (.bool true) ∧ Below w.heap.size w w') (nn : Nat) (cNN : ∀ w, Calls Tryd.prog 24 #[.int .u8 f] w fun e w' => e = .returned (BV nn) ∧ Below w.heap.size w w') :
    Calls Tryd.prog 28 #[.int .u8 f, .int .u8 m, BV a] w fun e w' => e = .returned (.tuple #[BV nn, .int .u8 16, .int .i64 0]) ∧ Below w.heap.size w w' := by
  have H := Own.start w
  have HT := Lib.hid hT
  clear hT
  go_enter Tryd.func28, Tryd.ntmps28
  exact walk28
set_option maxHeartbeats 1600000 in
set_option maxRecDepth 100000 in
theorem sqrtSqrt_I (f m a : Nat) (c1 s1 f1 : Nat) (x1 : Int) (c2 s2 f2 : Nat) (x2 : Int) (c3 s3 f3 : Nat) (x3 : Int) (w : World) (hT : Tab w) (cO : ∀ w g, Tab w → Blk 27 w g (bc a) → Calls Tryd.prog 72 #[.int .u8 f, .int .u8 m, .slice (some ⟨g, 0, none⟩) 1 1] w fun e w' => e = .returned (.tuple #[.agg (tri c1 s1 x1 f1 c2 s2 x2 f2 c3 s3 x3 f3), .bool true]) ∧ Below w.heap.size w w') (cn1 : ∀ w, Calls Tryd.prog 73 #[PV c1 s1 x1 f1] w fun e w' => e = .returned (.bool false) ∧ Below w.heap.size w w') (cz1 : ∀ w, Calls Tryd.prog 75 #[PV c1 s1 x1 f1] w fun e w' => e = .returned (.bool false) ∧ Below w.heap.size w w') (cb1 : ∀ w, Calls Tryd.prog 76 #[PV c1 s1 x1 f1] w fun e w' => e = .returned (.bool false) ∧ Below w.heap.size w w') (ci1 : ∀ w, Calls Tryd.prog 77 #[PV c1 s1 x1 f1] w fun e w' => e = .returned (.bool true) ∧ Below w.heap.size w w')  :
    Calls Tryd.prog 28 #[.int .u8 f, .int .u8 m, BV a] w fun e w' => e = .returned (.tuple #[BV a, .int .u8 0, .int .i64 0]) ∧ Below w.heap.size w w' := by
  have H := Own.start w
  have HT := Lib.hid hT
  clear hT
  go_enter Tryd.func28, Tryd.ntmps28
  exact walk28
end Go.Proofs.YtdcgcjmajacgiaaDoor

namespace Go.Proofs.YtdcgcjmajacgiaaDoor
open Go.RowKit
set_option maxHeartbeats 1600000 in
set_option maxRecDepth 100000 in
theorem sqrtSqrt_F0 (f m a : Nat) (c1 s1 f1 : Nat) (x1 : Int) (c2 s2 f2 : Nat) (x2 : Int) (c3 s3 f3 : Nat) (x3 : Int) (w : World) (hT : Tab w) (cO : ∀ w g, Tab w → Blk 27 w g (bc a) → Calls Tryd.prog 72 #[.int .u8 f, .int .u8 m, .slice (some ⟨g, 0, none⟩) 1 1] w fun e w' => e = .returned (.tuple #[.agg (tri c1 s1 x1 f1 c2 s2 x2 f2 c3 s3 x3 f3), .bool true]) ∧ Below w.heap.size w w') (cn1 : ∀ w, Calls Tryd.prog 73 #[PV c1 s1 x1 f1] w fun e w' => e = .returned (.bool false) ∧ Below w.heap.size w w') (cz1 : ∀ w, Calls Tryd.prog 75 #[PV c1 s1 x1 f1] w fun e w' => e = .returned (.bool false) ∧ Below w.heap.size w w') (cb1 : ∀ w, Calls Tryd.prog 76 #[PV c1 s1 x1 f1] w fun e w' => e = .returned (.bool false) ∧ Below w.heap.size w w') (ci1 : ∀ w, Calls Tryd.prog 77 #[PV c1 s1 x1 f1] w fun e w' => e = .returned (.bool false) ∧ Below w.heap.size w w') (hx1 : -40000 ≤ x1) (hx1b : x1 ≤ 40000) (p l1 : Nat) (hp : p ≤ 113) (hl1 : l1 ≤ 384) (ho : (Go.bits .and .i64 (x1 - (max 0 (2 * ((p : Int) + 3) - (l1 : Int)))) 1 == 0) = true) (cP : ∀ w, Calls Tryd.prog 65 #[.int .u8 f] w fun e w' => e = .returned (.int .i64 (p : Nat)) ∧ Below w.heap.size w w') (cl1 : ∀ w, Calls Tryd.prog 78 #[W s1] w fun e w' => e = .returned (.int .i64 (l1 : Nat)) ∧ Below w.heap.size w w') (u q d : Nat) (lo : Bool) (hd : d < top6) (r : Nat) (fl : Int) (er : Int) (cL : ∀ w, Calls Tryd.prog 48 #[W s1, .int .i64 (max 0 (2 * ((p : Int) + 3) - (l1 : Int)))] w fun e w' => e = .returned (.tuple #[W u, .bool lo]) ∧ Below w.heap.size w w') (cQ : ∀ w, Calls Tryd.prog 79 #[W u] w fun e w' => e = .returned (.tuple #[W q, W d]) ∧ Below w.heap.size w w') (cK : ∀ w, Tab w → Calls Tryd.prog 32 #[.int .u8 f, .int .u8 m, RV false q ((x1 - (max 0 (2 * ((p : Int) + 3) - (l1 : Int)))) / 2) (!decide (d = 0))] w fun e w' => e = .returned (.tuple #[BV r, .int .u8 fl, .int .i64 er]) ∧ Below w.heap.size w w')  :
    Calls Tryd.prog 28 #[.int .u8 f, .int .u8 m, BV a] w fun e w' => e = .returned (.tuple #[BV r, .int .u8 fl, .int .i64 er]) ∧ Below w.heap.size w w' := by
  have H := Own.start w
  have HT := Lib.hid hT
  clear hT
  have v1 : IntKind.i64.wrap ((p : Int) + 3) = (p : Int) + 3 := IntWalk.i64_in _ (by omega)
  have v2 : IntKind.i64.wrap (2 * ((p : Int) + 3)) = 2 * ((p : Int) + 3) := IntWalk.i64_in _ (by omega)
  have v3 : IntKind.i64.wrap (2 * ((p : Int) + 3) - (l1 : Int)) = 2 * ((p : Int) + 3) - (l1 : Int) := IntWalk.i64_in _ (by omega)
  have v5 : IntKind.i64.wrap (x1 - (max 0 (2 * ((p : Int) + 3) - (l1 : Int)))) = x1 - (max 0 (2 * ((p : Int) + 3) - (l1 : Int))) := IntWalk.i64_in _ (by omega)
  have eq1 : ∀ w, (Op.equalIn 10000 54 (.agg (limbs d)) (.agg #[.int .u64 0, .int .u64 0, .int .u64 0, .int .u64 0, .int .u64 0, .int .u64 0])).run Tryd.prog w = .ok (decide (d = 0)) w := fun w => run_equal_zero w d hd
  go_enter Tryd.func28, Tryd.ntmps28
  exact walk28
set_option maxHeartbeats 1600000 in
set_option maxRecDepth 100000 in
theorem sqrtSqrt_F1 (f m a : Nat) (c1 s1 f1 : Nat) (x1 : Int) (c2 s2 f2 : Nat) (x2 : Int) (c3 s3 f3 : Nat) (x3 : Int) (w : World) (hT : Tab w) (cO : ∀ w g, Tab w → Blk 27 w g (bc a) → Calls Tryd.prog 72 #[.int .u8 f, .int .u8 m, .slice (some ⟨g, 0, none⟩) 1 1] w fun e w' => e = .returned (.tuple #[.agg (tri c1 s1 x1 f1 c2 s2 x2 f2 c3 s3 x3 f3), .bool true]) ∧ Below w.heap.size w w') (cn1 : ∀ w, Calls Tryd.prog 73 #[PV c1 s1 x1 f1] w fun e w' => e = .returned (.bool false) ∧ Below w.heap.size w w') (cz1 : ∀ w, Calls Tryd.prog 75 #[PV c1 s1 x1 f1] w fun e w' => e = .returned (.bool false) ∧ Below w.heap.size w w') (cb1 : ∀ w, Calls Tryd.prog 76 #[PV c1 s1 x1 f1] w fun e w' => e = .returned (.bool false) ∧ Below w.heap.size w w') (ci1 : ∀ w, Calls Tryd.prog 77 #[PV c1 s1 x1 f1] w fun e w' => e = .returned (.bool false) ∧ Below w.heap.size w w') (hx1 : -40000 ≤ x1) (hx1b : x1 ≤ 40000) (p l1 : Nat) (hp : p ≤ 113) (hl1 : l1 ≤ 384) (ho : (Go.bits .and .i64 (x1 - (max 0 (2 * ((p : Int) + 3) - (l1 : Int)))) 1 == 0) = false) (cP : ∀ w, Calls Tryd.prog 65 #[.int .u8 f] w fun e w' => e = .returned (.int .i64 (p : Nat)) ∧ Below w.heap.size w w') (cl1 : ∀ w, Calls Tryd.prog 78 #[W s1] w fun e w' => e = .returned (.int .i64 (l1 : Nat)) ∧ Below w.heap.size w w') (u q d : Nat) (lo : Bool) (hd : d < top6) (r : Nat) (fl : Int) (er : Int) (cL : ∀ w, Calls Tryd.prog 48 #[W s1, .int .i64 ((max 0 (2 * ((p : Int) + 3) - (l1 : Int))) + 1)] w fun e w' => e = .returned (.tuple #[W u, .bool lo]) ∧ Below w.heap.size w w') (cQ : ∀ w, Calls Tryd.prog 79 #[W u] w fun e w' => e = .returned (.tuple #[W q, W d]) ∧ Below w.heap.size w w') (cK : ∀ w, Tab w → Calls Tryd.prog 32 #[.int .u8 f, .int .u8 m, RV false q ((x1 - ((max 0 (2 * ((p : Int) + 3) - (l1 : Int))) + 1)) / 2) (!decide (d = 0))] w fun e w' => e = .returned (.tuple #[BV r, .int .u8 fl, .int .i64 er]) ∧ Below w.heap.size w w')  :
    Calls Tryd.prog 28 #[.int .u8 f, .int .u8 m, BV a] w fun e w' => e = .returned (.tuple #[BV r, .int .u8 fl, .int .i64 er]) ∧ Below w.heap.size w w' := by
  have H := Own.start w
  have HT := Lib.hid hT
  clear hT
  have v1 : IntKind.i64.wrap ((p : Int) + 3) = (p : Int) + 3 := IntWalk.i64_in _ (by omega)
  have v2 : IntKind.i64.wrap (2 * ((p : Int) + 3)) = 2 * ((p : Int) + 3) := IntWalk.i64_in _ (by omega)
  have v3 : IntKind.i64.wrap (2 * ((p : Int) + 3) - (l1 : Int)) = 2 * ((p : Int) + 3) - (l1 : Int) := IntWalk.i64_in _ (by omega)
  have v5 : IntKind.i64.wrap (x1 - ((max 0 (2 * ((p : Int) + 3) - (l1 : Int))) + 1)) = x1 - ((max 0 (2 * ((p : Int) + 3) - (l1 : Int))) + 1) := IntWalk.i64_in _ (by omega)
  have eq1 : ∀ w, (Op.equalIn 10000 54 (.agg (limbs d)) (.agg #[.int .u64 0, .int .u64 0, .int .u64 0, .int .u64 0, .int .u64 0, .int .u64 0])).run Tryd.prog w = .ok (decide (d = 0)) w := fun w => run_equal_zero w d hd
  go_enter Tryd.func28, Tryd.ntmps28
  exact walk28
end Go.Proofs.YtdcgcjmajacgiaaDoor

namespace Go.Proofs.YtdcgcjmajacgiaaDoor
theorem infB_cases (c : Nat) (h : infB c = true) : c = 0 ∨ c = 7 := by unfold infB at h; simpa using h
theorem sigN_113 (f a : Nat) (hf : fitsB f a = true) : sigN f a < 2 ^ 113 := by
  have h4 := ((fits_iff f a).1 hf).1
  have hp := pF_113 f
  rcases cls_sort f a with c | c | c | c
  · unfold sigN; rw [if_neg (by omega), if_neg (by omega)]; exact two_pos 113
  · unfold sigN; rw [if_neg (by omega), if_neg (by omega)]; exact two_pos 113
  · unfold sigN; rw [if_neg (by omega), if_neg (by omega)]; exact two_pos 113
  · have := (can_of f a hf c).1.lt
    exact Nat.lt_of_lt_of_le this (Nat.pow_le_pow_right (by decide) hp)
theorem xpN_bound (f a : Nat) (hf : fitsB f a = true) : -40000 ≤ xpN f a ∧ xpN f a ≤ 40000 := by
  have h4 := ((fits_iff f a).1 hf).1
  obtain ⟨h1, h2, h3, h5, h6, h7, h8, h9⟩ := formK f h4
  rcases cls_sort f a with c | c | c | c
  · unfold xpN; rw [if_neg (by omega), if_neg (by omega)]; omega
  · unfold xpN; rw [if_neg (by omega), if_neg (by omega)]; omega
  · unfold xpN; rw [if_neg (by omega), if_neg (by omega)]; omega
  · have hc := (can_of f a hf c).1
    have := hc.ge; have := hc.le; omega
theorem below_fits (f a : Nat) (h : fitsB f a = true) : a < 2 ^ (64 * 2) := by
  obtain ⟨h4, hb⟩ := (fits_iff f a).1 h
  exact Nat.lt_of_lt_of_le hb (Nat.pow_le_pow_right (by decide) (by have := (formB f h4).2.2.2.1; omega))
theorem canon_flag (b : Bool) : (cond b (16 : Int) 0) = ((cond b 16 0 : Nat) : Int) := by cases b <;> rfl
end Go.Proofs.YtdcgcjmajacgiaaDoor

namespace Go.Proofs.YtdcgcjmajacgiaaDoor
theorem sig_ne (f a : Nat) (hfa : fitsB f a = true) (h1 : nanB (clsN f a) = false) (i1 : infB (clsN f a) = false) (z1 : zerB (clsN f a) = false) : sigN f a ≠ 0 := by
  intro h0
  have := (sig_zero f a hfa (by intro h; rw [show nanB (clsN f a) = true from decide_eq_true h] at h1; cases h1) (by intro h; rw [show infB (clsN f a) = true by unfold infB; rcases h with h | h <;> rw [h] <;> rfl] at i1; cases i1)).1 h0
  rw [show zerB (clsN f a) = true by unfold zerB; rcases this with h | h <;> rw [h] <;> rfl] at z1; cases z1
theorem cast_beq (a b : Nat) : ((a : Int) == (b : Int)) = decide (a = b) := by
  by_cases h : a = b
  · subst h; simp
  · rw [decide_eq_false h]
    exact beq_eq_false_iff_ne.2 (by omega)
theorem lt_113_6 (x n : Nat) (hn : n ≤ 384) (h : x < 2 ^ n) : x < top6 := lt_pwr top6 n (64 * 6) _ top6.eq_1 hn h
theorem mul_pow_lt (x n k : Nat) (h : x < 2 ^ n) : x * 2 ^ k < 2 ^ (n + k) := by
  rw [Nat.pow_add]; exact Nat.mul_lt_mul_of_pos_right h (two_pos k)
end Go.Proofs.YtdcgcjmajacgiaaDoor

namespace Go.Proofs.YtdcgcjmajacgiaaDoor
open Go.RowKit
/-- What sqrt.open answers. -/
theorem sqrtOpen_any (f m a : Nat) (hf : f < 256) (hm : m < 256) (ha : a < 2 ^ (64 * 2)) :
    ∃ c1 s1 f1 x1, (unOk f m a = true → c1 = clsN f a ∧ s1 = sigN f a ∧ x1 = xpN f a ∧ f1 = frN f a) ∧
    ∀ (w : World) (g : Nat), Tab w → Blk 27 w g (bc a) → Calls Tryd.prog 72 #[.int .u8 f, .int .u8 m, .slice (some ⟨g, 0, none⟩) 1 1] w fun e w' => e = .returned (.tuple #[.agg (tri c1 s1 x1 f1 0 0 0 0 0 0 0 0), .bool (unOk f m a)]) ∧ Below w.heap.size w w' := by
  have cM := fun w => shapeCheckMode_any m w hm
  have cF := fun w => shapeCheck_any f w hf
  by_cases hm5 : m < 5
  case neg =>
    have e : unOk f m a = false := by unfold unOk; rw [decide_eq_false hm5]; simp
    rw [decide_eq_false hm5] at cM
    rw [e]
    exact ⟨0, 0, 0, 0, (fun h => by cases h), fun w g _ hB => sqrt_open1_mode f m a w g hB cM⟩
  rw [decide_eq_true hm5] at cM
  by_cases hf4 : f < 4
  case neg =>
    have e : unOk f m a = false := by unfold unOk; rw [decide_eq_false hf4]; simp
    rw [decide_eq_false hf4] at cF
    rw [e]
    exact ⟨0, 0, 0, 0, (fun h => by cases h), fun w g _ hB => sqrt_open1_form f m a w g hB cM cF⟩
  rw [decide_eq_true hf4] at cF
  cases ha' : fitsB f a
  · have e : unOk f m a = false := by unfold unOk; rw [ha']; simp
    rw [e]
    exact ⟨0, 0, 0, 0, (fun h => by cases h), fun w g hT hB => sqrt_open1_no0 f m a w hT g hB cM cF (fun w _ => kindUnpack_not f a w ha ha')⟩
  have e : unOk f m a = true := by unfold unOk; rw [ha', decide_eq_true hm5, decide_eq_true hf4]; rfl
  rw [e]
  exact ⟨_, _, _, _, fun _ => ⟨rfl, rfl, rfl, rfl⟩, fun w g hT hB => sqrt_open1_ok f m a w hT g hB cM cF (fun w hT => kindUnpack_yes f a w ha' hT)⟩
theorem i64_and1 (n : Int) : Go.bits .and .i64 n 1 = n % 2 := by
  have h1 : (BitVec.ofInt 64 1).toNat = 2 ^ 1 - 1 := by decide
  have key : (BitVec.ofInt 64 n &&& BitVec.ofInt 64 1).toNat = (n % ((2 ^ 64 : Nat) : Int)).toNat % 2 ^ 1 := by
    rw [BitVec.toNat_and, BitVec.toNat_ofInt, h1, Nat.and_two_pow_sub_one_eq_mod]
  show IntKind.i64.wrap ((BitVec.ofInt 64 n &&& BitVec.ofInt 64 1).toNat : Nat) = n % 2
  rw [key, IntKind.wrap_i64]
  omega
theorem root_len (a n p : Nat) (ha : a ≠ 0) (hn : 2 * ((p : Int) + 3) - lenN a ≤ n) : p + 2 ≤ lenN (isq (a * 2 ^ n)) := by
  have h1 := lenN_ge a ha
  have h3 := lenN_pos a ha
  have h4 : 2 ^ (lenN a - 1) * 2 ^ n ≤ a * 2 ^ n := Nat.mul_le_mul_right _ h1
  rw [← Nat.pow_add] at h4
  have h5 : 2 ^ (p + 2 + (p + 2)) ≤ a * 2 ^ n := Nat.le_trans (Nat.pow_le_pow_right (by decide) (by omega)) h4
  have h6 := isq_gt (a * 2 ^ n)
  generalize isq (a * 2 ^ n) = r at *
  rcases Nat.lt_or_ge (lenN r) (p + 2) with h | h
  · have hr := (lenN_le r (p + 1)).1 (by omega)
    have hr1 : r + 1 ≤ 2 ^ (p + 2) := Nat.le_trans hr (Nat.pow_le_pow_right (by decide) (by omega))
    have h7 : (r + 1) * (r + 1) ≤ 2 ^ (p + 2) * 2 ^ (p + 2) := Nat.mul_le_mul hr1 hr1
    rw [← Nat.pow_add] at h7
    omega
  · exact h
theorem root_lt (a k : Nat) (h : a < 2 ^ k) : isq a < 2 ^ k := by
  have h1 := isq_le a
  rcases Nat.eq_zero_or_pos (isq a) with h0 | h0
  · rw [h0]; exact two_pos k
  · exact Nat.lt_of_le_of_lt (Nat.le_trans (Nat.le_mul_of_pos_left _ h0) h1) h
theorem sqrtSqrt_any (f m a : Nat) (w : World) (hf : f < 256) (hm : m < 256) (ha : a < 2 ^ (64 * 2)) (hT : Tab w) :
    Calls Tryd.prog 28 #[.int .u8 f, .int .u8 m, BV a] w fun e w' => e = .returned (.tuple #[BV (sqrtN f m a).1, .int .u8 ((sqrtN f m a).2.1 : Nat), .int .i64 (sqrtN f m a).2.2]) ∧ Below w.heap.size w w' := by
  obtain ⟨c1, s1, f1, x1, hv, cO⟩ := sqrtOpen_any f m a hf hm ha
  cases hok : unOk f m a
  · have hN : sqrtN f m a = (0, 0, 2) := by unfold sqrtN; rw [hok]; rfl
    rw [hok] at cO
    rw [hN]
    exact sqrtSqrt_no f m a _ _ _ _ _ _ _ _ _ _ _ _ w hT cO
  obtain ⟨rfl, rfl, rfl, rfl⟩ := hv hok
  have hN : sqrtN f m a = ((sqrtR f m a).1, (sqrtR f m a).2, 0) := by unfold sqrtN; rw [hok]; rfl
  rw [hN]
  rw [hok] at cO
  obtain ⟨⟨hf4', hm5'⟩, hfa⟩ : (decide (f < 4) = true ∧ decide (m < 5) = true) ∧ fitsB f a = true := by unfold unOk at hok; simp only [Bool.and_eq_true] at hok; exact hok
  have hf4 := of_decide_eq_true hf4'
  have hm5 := of_decide_eq_true hm5'
  have cb1 := fun w => sqrt_below (clsN f a) (sigN f a) (frN f a) (xpN f a) w
  have cn1 := fun w => sqrt_nan (clsN f a) (sigN f a) (frN f a) (xpN f a) w
  have ci1 := fun w => sqrt_inf (clsN f a) (sigN f a) (frN f a) (xpN f a) w
  have cz1 := fun w => sqrt_nought (clsN f a) (sigN f a) (frN f a) (xpN f a) w
  have cN := fun w => shapeNaN_any f w hf
  have cC := fun w g hB => sqrt_canon f (clsN f a) (sigN f a) (frN f a) (xpN f a) w g hB cN
  unfold sqrtR canonR
  cases h1 : nanB (clsN f a)
  case true =>
    rw [h1] at cn1
    rw [canon_flag] at cC
    rw [Bool.or_self]
    exact sqrtSqrt_N f m a _ _ _ _ 0 0 0 0 0 0 0 0 w hT cO cn1 _ _ cC
  rw [h1] at cn1
  cases z1 : zerB (clsN f a)
  case true => rw [z1] at cz1; exact sqrtSqrt_Z f m a _ _ _ _ 0 0 0 0 0 0 0 0 w hT cO cn1 cz1
  rw [z1] at cz1
  cases b1 : belowN4 (clsN f a)
  case true => rw [b1] at cb1; exact sqrtSqrt_B f m a _ _ _ _ 0 0 0 0 0 0 0 0 w hT cO cn1 cz1 cb1 _ cN
  rw [b1] at cb1
  cases i1 : infB (clsN f a)
  case true => rw [i1] at ci1; exact sqrtSqrt_I f m a _ _ _ _ 0 0 0 0 0 0 0 0 w hT cO cn1 cz1 cb1 ci1
  rw [i1] at ci1
  obtain ⟨g1, g2⟩ := xpN_bound f a hfa
  have qa := sigN_113 f a hfa
  have ta := lt_113_6 _ _ (by decide) qa
  have na := sig_ne f a hfa h1 i1 z1
  have la := (lenN_le _ 113).2 qa
  have la0 := lenN_pos _ na
  have hp := pF_113 f
  obtain ⟨N0, hN0⟩ : ∃ N0 : Nat, sqrSh0 f a = N0 := ⟨_, rfl⟩
  have hmax : max 0 (2 * ((pF f : Int) + 3) - (lenN (sigN f a) : Int)) = (N0 : Int) := by rw [← hN0]; unfold sqrSh0; omega
  have hand : (Go.bits .and .i64 (xpN f a - (N0 : Int)) 1 == 0) = decide ((xpN f a - (N0 : Int)) % 2 = 0) := by
    rw [i64_and1]
    by_cases h : (xpN f a - (N0 : Int)) % 2 = 0
    · rw [h, decide_eq_true rfl]; rfl
    · rw [decide_eq_false h]; exact beq_eq_false_iff_ne.2 h
  obtain ⟨n, hn⟩ : ∃ n, sqrSh f a = n := ⟨_, rfl⟩
  have hnv : n = if (xpN f a - (N0 : Int)) % 2 = 0 then N0 else N0 + 1 := by rw [← hn]; unfold sqrSh; rw [hN0]
  have hnb : n ≤ 232 ∧ 2 * ((pF f : Int) + 3) - lenN (sigN f a) ≤ n := by split at hnv <;> omega
  have hx := Lib.hid (mul_pow_lt (sigN f a) 113 n qa)
  have hu6 : sigN f a * 2 ^ n < top6 := lt_113_6 _ (113 + n) (by omega) hx.out
  have hln := root_len (sigN f a) n (pF f) na hnb.2
  have hr6 : isq (sigN f a * 2 ^ n) < top6 := lt_113_6 _ (113 + n) (by omega) (root_lt _ _ hx.out)
  have hd6 : sigN f a * 2 ^ n - isq (sigN f a * 2 ^ n) * isq (sigN f a * 2 ^ n) < top6 := Nat.lt_of_le_of_lt (Nat.sub_le _ _) hu6
  have hq0 : isq (sigN f a * 2 ^ n) ≠ 0 := by intro h; rw [h, lenN_zero] at hln; omega
  have cQ := fun w => quotSqrt_any (sigN f a * 2 ^ n) w hu6
  have cK := fun e w hT => roundPack_any f m (isq (sigN f a * 2 ^ n)) e false (!decide (sigN f a * 2 ^ n - isq (sigN f a * 2 ^ n) * isq (sigN f a * 2 ^ n) = 0)) w hT hf hm hr6
  have hPm : ∀ e mo, -1048576 ≤ e → e ≤ 1048576 → packN f m false (isq (sigN f a * 2 ^ n)) e mo = ((packB f m false (isq (sigN f a * 2 ^ n)) e mo).1, (packB f m false (isq (sigN f a * 2 ^ n)) e mo).2, 0) := by
    intro e mo e1 e2
    unfold packN packOk
    rw [decide_eq_true hf4, decide_eq_true hm5, decide_eq_true e1, decide_eq_true e2, decide_eq_false (show ¬ lenN (isq (sigN f a * 2 ^ n)) < pF f + 2 by omega), if_neg hq0]; simp
  rw [hn]
  have cK := cK ((xpN f a - (n : Int)) / 2)
  rw [hPm _ _ (by omega) (by omega)] at cK
  simp only [Bool.false_eq_true, if_false]
  by_cases ho : (xpN f a - (N0 : Int)) % 2 = 0
  · rw [if_pos ho] at hnv
    rw [decide_eq_true ho] at hand
    have cL := fun w => wideLeft_n (sigN f a) (max 0 (2 * ((pF f : Int) + 3) - (lenN (sigN f a) : Int))) w ta
    rw [show (max 0 (2 * ((pF f : Int) + 3) - (lenN (sigN f a) : Int))).toNat = n by omega] at cL
    exact sqrtSqrt_F0 f m a _ _ _ _ 0 0 0 0 0 0 0 0 w hT cO cn1 cz1 cb1 ci1 g1 g2 (pF f) (lenN (sigN f a)) hp (by omega) (by rw [hmax]; exact hand) (fun w => shapePrecision_any f w hf) (fun w => wideLen_any _ w ta) _ _ _ _ hd6 _ _ _ cL cQ (by rw [hmax, ← hnv]; exact cK)
  · rw [if_neg ho] at hnv
    rw [decide_eq_false ho] at hand
    have cL := fun w => wideLeft_n (sigN f a) (max 0 (2 * ((pF f : Int) + 3) - (lenN (sigN f a) : Int)) + 1) w ta
    rw [show (max 0 (2 * ((pF f : Int) + 3) - (lenN (sigN f a) : Int)) + 1).toNat = n by omega] at cL
    exact sqrtSqrt_F1 f m a _ _ _ _ 0 0 0 0 0 0 0 0 w hT cO cn1 cz1 cb1 ci1 g1 g2 (pF f) (lenN (sigN f a)) hp (by omega) (by rw [hmax]; exact hand) (fun w => shapePrecision_any f w hf) (fun w => wideLen_any _ w ta) _ _ _ _ hd6 _ _ _ cL cQ (by rw [hmax, show (N0 : Int) + 1 = (n : Int) by omega]; exact cK)
end Go.Proofs.YtdcgcjmajacgiaaDoor
