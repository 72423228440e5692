/- AddTurned: for every input the law returns true, and each argument reads behind the call as it read before; the listed table is tied to the program's text. -/
import Derived.Test.YtjgonofkklpgaaaDoorRows
import Derived.Test.YtjgonofkklpgaaaDoorTie
import Derived.Test.YtjgonofkklpgaaaDoorCards
import Derived.WalkKit
import Derived.ProofKit
import Derived.LaidMore
import Derived.OpenShut
import Derived.Stop.Joined
import Derived.SevenTiedAt
import Derived.Lib.SmallJoins
import Derived.ChangeOld
import Derived.Below
import Derived.Carry
import Derived.Test.YtjgonofkklpgaaaDoorAt7
set_option linter.unusedSimpArgs false
set_option linter.unusedVariables false
set_option linter.unnecessarySimpa false
namespace Go.Proofs.YtjgonofkklpgaaaDoor
open Go.RowKit
theorem walkAd535 {P : Prop} (h : P := by
  go_wp2_with (first
    | ((with_reducible show wpList _ _ _ (⟨_, .box _ _, _, _, _, _⟩ :: _) _ _); refine H.box rfl rfl (cells_agg _) ?_; (intro g w H; simp only [Act.put, List.setIfInBounds_toArray, List.set_cons_zero, List.set_cons_succ]))
    | ((with_reducible show wpList _ _ _ (⟨_, .alloc 26, _, _, _, _⟩ :: _) _ _); refine H.mk0 rfl rB rfl ?_; (intro g w H; simp only [Act.put, List.setIfInBounds_toArray, List.set_cons_zero, List.set_cons_succ]))
    | ((with_reducible show wpList _ _ _ (⟨_, .alloc 100, _, _, _, _⟩ :: _) _ _); refine H.mk0 rfl rQ rfl ?_; (intro g w H; simp only [Act.put, List.setIfInBounds_toArray, List.set_cons_zero, List.set_cons_succ]))
    | ((with_reducible show wpList _ _ _ (⟨_, .alloc 75, _, _, _, _⟩ :: _) _ _); refine H.mk0 rfl rP rfl ?_; (intro g w H; simp only [Act.put, List.setIfInBounds_toArray, List.set_cons_zero, List.set_cons_succ]))
    | ((with_reducible show wpList _ _ _ (⟨_, .alloc 35, _, _, _, _⟩ :: _) _ _); refine H.mk0 rfl rW rfl ?_; (intro g w H; simp only [Act.put, List.setIfInBounds_toArray, List.set_cons_zero, List.set_cons_succ]))
    | ((with_reducible show wpList _ _ _ (⟨_, .alloc 92, _, _, _, _⟩ :: _) _ _); refine H.mk0 rfl rR rfl ?_; (intro g w H; simp only [Act.put, List.setIfInBounds_toArray, List.set_cons_zero, List.set_cons_succ]))
    | ((with_reducible show wpList _ _ _ (⟨_, .load 26 _, _, _, _, _⟩ :: _) _ _); refine H.ld rfl rB rfl rfl (by repeat (first | with_reducible exact List.mem_cons_self | apply List.mem_cons_of_mem)) (by first | with_reducible exact ext_2 _ _) (by rfl) ?_; simp only [Act.put, List.setIfInBounds_toArray, List.set_cons_zero, List.set_cons_succ])
    | ((with_reducible show wpList _ _ _ (⟨_, .load 100 _, _, _, _, _⟩ :: _) _ _); refine H.ld rfl rQ rfl rfl (by repeat (first | with_reducible exact List.mem_cons_self | apply List.mem_cons_of_mem)) (by first | with_reducible exact ext_tri _ _ _ _ _ _ _ _ _ _ _ _) (by rfl) ?_; simp only [Act.put, List.setIfInBounds_toArray, List.set_cons_zero, List.set_cons_succ])
    | ((with_reducible show wpList _ _ _ (⟨_, .load 75 _, _, _, _, _⟩ :: _) _ _); refine H.ld rfl rP rfl rfl (by repeat (first | with_reducible exact List.mem_cons_self | apply List.mem_cons_of_mem)) (by first | with_reducible exact ext_parts _ _ _ _ | with_reducible exact ext_t0 _ _ _ _ _ _ _ _ _ _ _ _ | with_reducible exact ext_t1 _ _ _ _ _ _ _ _ _ _ _ _ | with_reducible exact ext_t2 _ _ _ _ _ _ _ _ _ _ _ _) (by rfl) ?_; simp only [Act.put, List.setIfInBounds_toArray, List.set_cons_zero, List.set_cons_succ])
    | ((with_reducible show wpList _ _ _ (⟨_, .load 47 _, _, _, _, _⟩ :: _) _ _); refine H.ld1 rfl oC rfl rfl (by repeat (first | with_reducible exact List.mem_cons_self | apply List.mem_cons_of_mem)) (by first | with_reducible exact get_parts0 _ _ _ _ | with_reducible exact get_10 _) ?_; simp only [Act.put, List.setIfInBounds_toArray, List.set_cons_zero, List.set_cons_succ])
    | ((with_reducible show wpList _ _ _ (⟨_, .load 35 _, _, _, _, _⟩ :: _) _ _); refine H.ld rfl rW rfl rfl (by repeat (first | with_reducible exact List.mem_cons_self | apply List.mem_cons_of_mem)) (by first | with_reducible exact ext_limbs _ | with_reducible exact ext_parts_s _ _ _ _ | with_reducible exact ext_rough_s _ _ _ _ | with_reducible exact ext_parts_f _ _ _ _) (by rfl) ?_; simp only [Act.put, List.setIfInBounds_toArray, List.set_cons_zero, List.set_cons_succ])
    | ((with_reducible show wpList _ _ _ (⟨_, .load 3 _, _, _, _, _⟩ :: _) _ _); refine H.ld1 rfl oI rfl rfl (by repeat (first | with_reducible exact List.mem_cons_self | apply List.mem_cons_of_mem)) (by first | with_reducible exact get_rough7 _ _ _ _ | with_reducible exact get_parts7 _ _ _ _ | with_reducible exact get_10 _) ?_; simp only [Act.put, List.setIfInBounds_toArray, List.set_cons_zero, List.set_cons_succ])
    | ((with_reducible show wpList _ _ _ (⟨_, .load 92 _, _, _, _, _⟩ :: _) _ _); refine H.ld rfl rR rfl rfl (by repeat (first | with_reducible exact List.mem_cons_self | apply List.mem_cons_of_mem)) (by first | with_reducible exact ext_rough _ _ _ _) (by rfl) ?_; simp only [Act.put, List.setIfInBounds_toArray, List.set_cons_zero, List.set_cons_succ])
    | ((with_reducible show wpList _ _ _ (⟨_, .load 4 _, _, _, _, _⟩ :: _) _ _); refine H.ld1 rfl oT rfl rfl (by repeat (first | with_reducible exact List.mem_cons_self | apply List.mem_cons_of_mem)) (by first | with_reducible exact get_rough0 _ _ _ _ | with_reducible exact get_rough8 _ _ _ _ | with_reducible exact get_10 _) ?_; simp only [Act.put, List.setIfInBounds_toArray, List.set_cons_zero, List.set_cons_succ])
    | ((with_reducible show wpList _ _ _ (⟨_, .store 26 _ _, _, _, _, _⟩ :: _) _ _); refine H.st rfl rB rfl rfl (cells_agg _) (by repeat (first | with_reducible exact Upd.head _ | apply Upd.tail)) (set_bits _ _ _ _) (by rfl) (by exact one_of rfl) (by first | exact ble_le rfl | (change _ + 1 ≤ 12; omega) | (change _ + 1 ≤ 6; omega)) ?_; (intro w H; simp only [Act.put]))
    | ((with_reducible show wpList _ _ _ (⟨_, .store 100 _ _, _, _, _, _⟩ :: _) _ _); refine H.st rfl rQ rfl rfl (cells_agg _) (by repeat (first | with_reducible exact Upd.head _ | apply Upd.tail)) (set_tri _ _ _ _ _ _ _ _ _ _ _ _ _ _ _ _ _ _ _ _ _ _ _ _ ) (by rfl) (by exact one_of rfl) (by first | exact ble_le rfl | (change _ + 1 ≤ 12; omega) | (change _ + 1 ≤ 6; omega)) ?_; (intro w H; simp only [Act.put]))
    | ((with_reducible show wpList _ _ _ (⟨_, .store 75 _ _, _, _, _, _⟩ :: _) _ _); refine H.st rfl rP rfl rfl (cells_agg _) (by repeat (first | with_reducible exact Upd.head _ | apply Upd.tail)) (set_pw _ _ _ _ _ _ _ _) (by rfl) (by exact one_of rfl) (by first | exact ble_le rfl | (change _ + 1 ≤ 12; omega) | (change _ + 1 ≤ 6; omega)) ?_; (intro w H; simp only [Act.put]))
    | ((with_reducible show wpList _ _ _ (⟨_, .store 35 _ _, _, _, _, _⟩ :: _) _ _); refine H.st (o := 0) rfl rW rfl rfl (cells_agg _) (by repeat (first | with_reducible exact Upd.head _ | apply Upd.tail)) (set_limbs _ _) (by rfl) (by exact one_of rfl) (by first | exact ble_le rfl | (change _ + 1 ≤ 12; omega) | (change _ + 1 ≤ 6; omega)) ?_; (intro w H; simp only [Act.put]))
    | ((with_reducible show wpList _ _ _ (⟨_, .store 35 _ _, _, _, _, _⟩ :: _) _ _); refine H.st (o := 1) rfl rW rfl rfl (cells_agg _) (by repeat (first | with_reducible exact Upd.head _ | apply Upd.tail)) (set_rough_s _ _ _ _ _) (by rfl) (by exact one_of rfl) (by first | exact ble_le rfl | (change _ + 1 ≤ 12; omega) | (change _ + 1 ≤ 6; omega)) ?_; (intro w H; simp only [Act.put]))
    | ((with_reducible show wpList _ _ _ (⟨_, .store 92 _ _, _, _, _, _⟩ :: _) _ _); refine H.st rfl rR rfl rfl (cells_agg _) (by repeat (first | with_reducible exact Upd.head _ | apply Upd.tail)) (set_rw _ _ _ _ _ _ _ _) (by rfl) (by exact one_of rfl) (by first | exact ble_le rfl | (change _ + 1 ≤ 12; omega) | (change _ + 1 ≤ 6; omega)) ?_; (intro w H; simp only [Act.put]))
    | ((with_reducible show wpList _ _ _ (⟨_, .store 4 _ _, _, _, _, _⟩ :: _) _ _); refine H.st1 rfl oT rfl rfl (cells_bool _) (by repeat (first | with_reducible exact Upd.head _ | apply Upd.tail)) (set_rough_n _ _ _ _ _) (by rfl) (by exact one_of rfl) (by first | exact ble_le rfl | (change _ + 1 ≤ 12; omega) | (change _ + 1 ≤ 6; omega)) ?_; (intro w H; simp only [Act.put]))
    | ((with_reducible show Code.wp _ (.region 4 _ true) _ _ _); refine H.heldSub rfl (List.Sublist.refl _) ?_; intro H; refine H.takeRun (by repeat (first | with_reducible exact List.Sublist.refl _ | with_reducible apply List.Sublist.cons_cons | with_reducible apply List.Sublist.cons)) 0 rfl (by kernel_rfl) (by kernel_rfl) (by kernel_rfl) (fun _ _ _ _ h => h) rfl (by intro w; go_simp; (try with_reducible rfl)) ?_; (try simp only [Act.put, List.setIfInBounds_toArray, List.set_cons_zero, List.set_cons_succ]); (try simp only [List.getElem_toArray, List.getElem_cons_zero, List.getElem_cons_succ]); refine H.tk (by repeat (first | with_reducible exact List.Sublist.refl _ | with_reducible apply List.Sublist.cons_cons | with_reducible apply List.Sublist.cons)) 1 rfl (by kernel_rfl) (by kernel_rfl) (by kernel_rfl) (fun _ _ _ _ h => h) rfl rP rfl rfl (by repeat (first | with_reducible exact List.mem_cons_self | apply List.mem_cons_of_mem)) (by first | with_reducible exact ext_parts _ _ _ _ | with_reducible exact ext_t0 _ _ _ _ _ _ _ _ _ _ _ _ | with_reducible exact ext_t1 _ _ _ _ _ _ _ _ _ _ _ _ | with_reducible exact ext_t2 _ _ _ _ _ _ _ _ _ _ _ _) (by rfl) ?_; (try simp only [Act.put, List.setIfInBounds_toArray, List.set_cons_zero, List.set_cons_succ]); (try simp only [List.getElem_toArray, List.getElem_cons_zero, List.getElem_cons_succ]); refine H.takeRun (by repeat (first | with_reducible exact List.Sublist.refl _ | with_reducible apply List.Sublist.cons_cons | with_reducible apply List.Sublist.cons)) 2 rfl (by kernel_rfl) (by kernel_rfl) (by kernel_rfl) (fun _ _ _ _ h => h) rfl (by intro w; go_simp; (try with_reducible rfl)) ?_; (try simp only [Act.put, List.setIfInBounds_toArray, List.set_cons_zero, List.set_cons_succ]); (try simp only [List.getElem_toArray, List.getElem_cons_zero, List.getElem_cons_succ]); refine H.tk (by repeat (first | with_reducible exact List.Sublist.refl _ | with_reducible apply List.Sublist.cons_cons | with_reducible apply List.Sublist.cons)) 3 rfl (by kernel_rfl) (by kernel_rfl) (by kernel_rfl) (fun _ _ _ _ h => h) rfl rP rfl rfl (by repeat (first | with_reducible exact List.mem_cons_self | apply List.mem_cons_of_mem)) (by first | with_reducible exact ext_parts _ _ _ _ | with_reducible exact ext_t0 _ _ _ _ _ _ _ _ _ _ _ _ | with_reducible exact ext_t1 _ _ _ _ _ _ _ _ _ _ _ _ | with_reducible exact ext_t2 _ _ _ _ _ _ _ _ _ _ _ _) (by rfl) ?_; (try simp only [Act.put, List.setIfInBounds_toArray, List.set_cons_zero, List.set_cons_succ]); (try simp only [List.getElem_toArray, List.getElem_cons_zero, List.getElem_cons_succ]); refine held_two (i := 4) (k := 5) (by kernel_rfl) rfl rfl rfl rfl ?_ ?_; (refine H.oal rP rfl ?_; intro g w H; refine H.next (by repeat (first | with_reducible exact List.Sublist.refl _ | with_reducible apply List.Sublist.cons_cons | with_reducible apply List.Sublist.cons)) ?_; (try simp only [Act.put, List.setIfInBounds_toArray, List.set_cons_zero, List.set_cons_succ]); (try simp only [List.getElem_toArray, List.getElem_cons_zero, List.getElem_cons_succ]); refine held_one (i := 5) (by kernel_rfl) rfl rfl ?_; refine H.oal rP rfl ?_; intro g w H; refine H.next (by repeat (first | with_reducible exact List.Sublist.refl _ | with_reducible apply List.Sublist.cons_cons | with_reducible apply List.Sublist.cons)) ?_; (try simp only [Act.put, List.setIfInBounds_toArray, List.set_cons_zero, List.set_cons_succ]); (try simp only [List.getElem_toArray, List.getElem_cons_zero, List.getElem_cons_succ]); refine held_one (i := 6) (by kernel_rfl) rfl rfl ?_; refine H.ost rP rfl rfl (cells_agg _) (by repeat (first | with_reducible exact Upd.head _ | apply Upd.tail)) (set_pw _ _ _ _ _ _ _ _) (by rfl) (by exact one_of rfl) (by first | exact ble_le rfl | (change _ + 1 ≤ 12; omega) | (change _ + 1 ≤ 6; omega)) ?_; intro w H; refine H.next (by repeat (first | with_reducible exact List.Sublist.refl _ | with_reducible apply List.Sublist.cons_cons | with_reducible apply List.Sublist.cons)) ?_; (try simp only [Act.put]); refine held_one (i := 7) (by kernel_rfl) rfl rfl ?_; refine H.ost rP rfl rfl (cells_agg _) (by repeat (first | with_reducible exact Upd.head _ | apply Upd.tail)) (set_pw _ _ _ _ _ _ _ _) (by rfl) (by exact one_of rfl) (by first | exact ble_le rfl | (change _ + 1 ≤ 12; omega) | (change _ + 1 ≤ 6; omega)) ?_; intro w H; refine H.next (by repeat (first | with_reducible exact List.Sublist.refl _ | with_reducible apply List.Sublist.cons_cons | with_reducible apply List.Sublist.cons)) ?_; (try simp only [Act.put]); refine wpAnyH_done (by kernel_rfl) ?_ _); rotate_left; (refine H.oal rP rfl ?_; intro g w H; refine H.next (by repeat (first | with_reducible exact List.Sublist.refl _ | with_reducible apply List.Sublist.cons_cons | with_reducible apply List.Sublist.cons)) ?_; (try simp only [Act.put, List.setIfInBounds_toArray, List.set_cons_zero, List.set_cons_succ]); (try simp only [List.getElem_toArray, List.getElem_cons_zero, List.getElem_cons_succ]); refine held_one (i := 4) (by kernel_rfl) rfl rfl ?_; refine H.oal rP rfl ?_; intro g w H; refine H.next (by repeat (first | with_reducible exact List.Sublist.refl _ | with_reducible apply List.Sublist.cons_cons | with_reducible apply List.Sublist.cons)) ?_; (try simp only [Act.put, List.setIfInBounds_toArray, List.set_cons_zero, List.set_cons_succ]); (try simp only [List.getElem_toArray, List.getElem_cons_zero, List.getElem_cons_succ]); refine held_one (i := 6) (by kernel_rfl) rfl rfl ?_; refine H.ost rP rfl rfl (cells_agg _) (by repeat (first | with_reducible exact Upd.head _ | apply Upd.tail)) (set_pw _ _ _ _ _ _ _ _) (by rfl) (by exact one_of rfl) (by first | exact ble_le rfl | (change _ + 1 ≤ 12; omega) | (change _ + 1 ≤ 6; omega)) ?_; intro w H; refine H.next (by repeat (first | with_reducible exact List.Sublist.refl _ | with_reducible apply List.Sublist.cons_cons | with_reducible apply List.Sublist.cons)) ?_; (try simp only [Act.put]); refine held_one (i := 7) (by kernel_rfl) rfl rfl ?_; refine H.ost rP rfl rfl (cells_agg _) (by repeat (first | with_reducible exact Upd.head _ | apply Upd.tail)) (set_pw _ _ _ _ _ _ _ _) (by rfl) (by exact one_of rfl) (by first | exact ble_le rfl | (change _ + 1 ≤ 12; omega) | (change _ + 1 ≤ 6; omega)) ?_; intro w H; refine H.next (by repeat (first | with_reducible exact List.Sublist.refl _ | with_reducible apply List.Sublist.cons_cons | with_reducible apply List.Sublist.cons)) ?_; (try simp only [Act.put]); refine wpAnyH_done (by kernel_rfl) ?_ _))
    | ((with_reducible show Code.wp _ (.region 30 _ true) _ _ _); refine H.heldSub rfl (List.Sublist.refl _) ?_; intro H; refine H.tk (by repeat (first | with_reducible exact List.Sublist.refl _ | with_reducible apply List.Sublist.cons_cons | with_reducible apply List.Sublist.cons)) 0 rfl (by kernel_rfl) (by kernel_rfl) (by kernel_rfl) (fun _ _ _ _ h => h) rfl rP rfl rfl (by repeat (first | with_reducible exact List.mem_cons_self | apply List.mem_cons_of_mem)) (by first | with_reducible exact ext_parts _ _ _ _ | with_reducible exact ext_t0 _ _ _ _ _ _ _ _ _ _ _ _ | with_reducible exact ext_t1 _ _ _ _ _ _ _ _ _ _ _ _ | with_reducible exact ext_t2 _ _ _ _ _ _ _ _ _ _ _ _) (by rfl) ?_; (try simp only [Act.put, List.setIfInBounds_toArray, List.set_cons_zero, List.set_cons_succ]); (try simp only [List.getElem_toArray, List.getElem_cons_zero, List.getElem_cons_succ]); refine H.tk (by repeat (first | with_reducible exact List.Sublist.refl _ | with_reducible apply List.Sublist.cons_cons | with_reducible apply List.Sublist.cons)) 2 rfl (by kernel_rfl) (by kernel_rfl) (by kernel_rfl) (fun _ _ _ _ h => h) rfl rP rfl rfl (by repeat (first | with_reducible exact List.mem_cons_self | apply List.mem_cons_of_mem)) (by first | with_reducible exact ext_parts _ _ _ _ | with_reducible exact ext_t0 _ _ _ _ _ _ _ _ _ _ _ _ | with_reducible exact ext_t1 _ _ _ _ _ _ _ _ _ _ _ _ | with_reducible exact ext_t2 _ _ _ _ _ _ _ _ _ _ _ _) (by rfl) ?_; (try simp only [Act.put, List.setIfInBounds_toArray, List.set_cons_zero, List.set_cons_succ]); (try simp only [List.getElem_toArray, List.getElem_cons_zero, List.getElem_cons_succ]); refine held_one (i := 1) (by kernel_rfl) rfl rfl ?_; unfold Oper.wp; go_simp; (first | (go_at_call 92; ((with_reducible refine (cb1 _).mono ?_); rintro e w ⟨rfl, hb⟩; replace H := H.call hb; clear hb)) | (go_at_call 92; ((with_reducible refine (cb2 _).mono ?_); rintro e w ⟨rfl, hb⟩; replace H := H.call hb; clear hb))); refine H.next (by repeat (first | with_reducible exact List.Sublist.refl _ | with_reducible apply List.Sublist.cons_cons | with_reducible apply List.Sublist.cons)) ?_; (try simp only [Act.put, List.setIfInBounds_toArray, List.set_cons_zero, List.set_cons_succ]); (try simp only [List.getElem_toArray, List.getElem_cons_zero, List.getElem_cons_succ]); refine held_one (i := 3) (by kernel_rfl) rfl rfl ?_; unfold Oper.wp; go_simp; (first | (go_at_call 92; ((with_reducible refine (cb1 _).mono ?_); rintro e w ⟨rfl, hb⟩; replace H := H.call hb; clear hb)) | (go_at_call 92; ((with_reducible refine (cb2 _).mono ?_); rintro e w ⟨rfl, hb⟩; replace H := H.call hb; clear hb))); refine H.next (by repeat (first | with_reducible exact List.Sublist.refl _ | with_reducible apply List.Sublist.cons_cons | with_reducible apply List.Sublist.cons)) ?_; (try simp only [Act.put, List.setIfInBounds_toArray, List.set_cons_zero, List.set_cons_succ]); (try simp only [List.getElem_toArray, List.getElem_cons_zero, List.getElem_cons_succ]); refine H.takeRun (by repeat (first | with_reducible exact List.Sublist.refl _ | with_reducible apply List.Sublist.cons_cons | with_reducible apply List.Sublist.cons)) 4 rfl (by kernel_rfl) (by kernel_rfl) (by kernel_rfl) (fun _ _ _ _ h => h) rfl (by intro w; go_simp; (try with_reducible rfl)) ?_; (try simp only [Act.put, List.setIfInBounds_toArray, List.set_cons_zero, List.set_cons_succ]); (try simp only [List.getElem_toArray, List.getElem_cons_zero, List.getElem_cons_succ]); refine wpAnyH_done (by kernel_rfl) ?_ _)
    | ((with_reducible show wpList _ _ _ (⟨_, .buildSlice 156 _ _, _, _, _, _⟩ :: _) _ _); refine H.bs2 rfl Tryd.underlying156 rB rfl rfl rfl  (by rfl) (by rfl)  (by decide) rfl ?_; (intro g w H; simp only [Act.put, List.setIfInBounds_toArray, List.set_cons_zero, List.set_cons_succ]))
    | ((with_reducible show wpList _ _ _ (⟨_, .buildSlice 157 _ _, _, _, _, _⟩ :: _) _ _); refine H.bs2 rfl Tryd.underlying157 rP rfl rfl rfl  (by rfl) (by rfl)  (by decide) rfl ?_; (intro g w H; simp only [Act.put, List.setIfInBounds_toArray, List.set_cons_zero, List.set_cons_succ]))
    | ((with_reducible show wpList _ _ _ (⟨_, .build 92 _, _, _, _, _⟩ :: _) _ _); refine wp_bld2 rfl rfl rfl rfl (rough_ne _ _ ) ?_; simp only [Act.put, List.setIfInBounds_toArray, List.set_cons_zero, List.set_cons_succ])
    | (go_at_call 86; ((with_reducible refine (cO _ _ (HT.out.below H.below) (H.blk (_, 26, _) (by repeat (first | with_reducible exact List.mem_cons_self | apply List.mem_cons_of_mem)))).mono ?_); rintro e w ⟨rfl, hb⟩; replace H := H.call hb; clear hb))
    | (go_at_call 87; ((with_reducible refine (cn1 _).mono ?_); rintro e w ⟨rfl, hb⟩; replace H := H.call hb; clear hb))
    | (go_at_call 87; ((with_reducible refine (cn2 _).mono ?_); rintro e w ⟨rfl, hb⟩; replace H := H.call hb; clear hb))
    | (go_at_call 89; ((with_reducible refine (ci1 _).mono ?_); rintro e w ⟨rfl, hb⟩; replace H := H.call hb; clear hb))
    | (go_at_call 89; ((with_reducible refine (ci2 _).mono ?_); rintro e w ⟨rfl, hb⟩; replace H := H.call hb; clear hb))
    | (go_at_call 90; ((with_reducible refine (cz1 _).mono ?_); rintro e w ⟨rfl, hb⟩; replace H := H.call hb; clear hb))
    | (go_at_call 90; ((with_reducible refine (cz2 _).mono ?_); rintro e w ⟨rfl, hb⟩; replace H := H.call hb; clear hb))
    | (go_at_call 92; ((with_reducible refine (cb1 _).mono ?_); rintro e w ⟨rfl, hb⟩; replace H := H.call hb; clear hb))
    | (go_at_call 92; ((with_reducible refine (cb2 _).mono ?_); rintro e w ⟨rfl, hb⟩; replace H := H.call hb; clear hb))
    | (go_at_call 57; ((with_reducible refine (cL1 _).mono ?_); rintro e w ⟨rfl, hb⟩; replace H := H.call hb; clear hb))
    | (go_at_call 57; ((with_reducible refine (cL2 _).mono ?_); rintro e w ⟨rfl, hb⟩; replace H := H.call hb; clear hb))
    | (go_at_call 57; ((with_reducible refine (cL3 _).mono ?_); rintro e w ⟨rfl, hb⟩; replace H := H.call hb; clear hb))
    | (go_at_call 91; ((with_reducible refine (cJ _ (HT.out.below H.below)).mono ?_); rintro e w ⟨rfl, hb⟩; replace H := H.call hb; clear hb))
    | (go_at_call 60; ((with_reducible refine (cA _).mono ?_); rintro e w ⟨rfl, hb⟩; replace H := H.call hb; clear hb))
    | (go_at_call 69; ((with_reducible refine (cK _ (HT.out.below H.below)).mono ?_); rintro e w ⟨rfl, hb⟩; replace H := H.call hb; clear hb))
    | (go_at_call 54; ((with_reducible refine (cC _).mono ?_); rintro e w ⟨rfl, hb⟩; replace H := H.call hb; clear hb))
    | (go_at_call 38; ((with_reducible refine (cZZ _).mono ?_); rintro e w ⟨rfl, hb⟩; replace H := H.call hb; clear hb))
    | (go_at_call 93; ((with_reducible refine (cS _).mono ?_); rintro e w ⟨rfl, hb⟩; replace H := H.call hb; clear hb))
    )
  all_goals (refine bodyPost_ret (results_ctt rfl rfl (H.res rB (by repeat (first | with_reducible exact List.mem_cons_self | apply List.mem_cons_of_mem)) (by first | with_reducible exact ext_2 _ _) (by rfl))) rfl ⟨?_, H.below⟩; exact rfl)) : P := h
set_option maxHeartbeats 1600000 in
set_option maxRecDepth 100000 in
theorem addAdd_FF1_same (f m a b : Nat) (c1 s1 f1 : Nat) (x1 : Int) (c2 s2 f2 : Nat) (x2 : Int) (c3 s3 f3 : Nat) (x3 : Int) (w : World) (hT : Tab w) (cO : ∀ w g, Tab w → Blk 26 w g (cat2 (bc a) (bc b)) → Calls Tryd.prog 86 #[.int .u8 f, .int .u8 m, .slice (some ⟨g, 0, none⟩) 2 2] w fun e w' => e = .returned (.tuple #[.agg (tri c1 s1 x1 f1 c2 s2 x2 f2 c3 s3 x3 f3), .bool true]) ∧ Below w.heap.size w w') (cn1 : ∀ w, Calls Tryd.prog 87 #[PV c1 s1 x1 f1] w fun e w' => e = .returned (.bool false) ∧ Below w.heap.size w w') (cn2 : ∀ w, Calls Tryd.prog 87 #[PV c2 s2 x2 f2] w fun e w' => e = .returned (.bool false) ∧ Below w.heap.size w w') (ci1 : ∀ w, Calls Tryd.prog 89 #[PV c1 s1 x1 f1] w fun e w' => e = .returned (.bool false) ∧ Below w.heap.size w w') (ci2 : ∀ w, Calls Tryd.prog 89 #[PV c2 s2 x2 f2] w fun e w' => e = .returned (.bool false) ∧ Below w.heap.size w w') (cz1 : ∀ w, Calls Tryd.prog 90 #[PV c1 s1 x1 f1] w fun e w' => e = .returned (.bool false) ∧ Below w.heap.size w w') (cz2 : ∀ w, Calls Tryd.prog 90 #[PV c2 s2 x2 f2] w fun e w' => e = .returned (.bool false) ∧ Below w.heap.size w w') (hx1 : -40000 ≤ x1) (hx1b : x1 ≤ 40000) (hx2 : -40000 ≤ x2) (hx2b : x2 ≤ 40000) (hs : x1 < x2) (u1 u2 t1 t2 : Nat) (l1 l2 l3 b1 b2 : Bool) (cb1 : ∀ w, Calls Tryd.prog 92 #[PV c1 s1 x1 f1] w fun e w' => e = .returned (.bool b1) ∧ Below w.heap.size w w') (cb2 : ∀ w, Calls Tryd.prog 92 #[PV c2 s2 x2 f2] w fun e w' => e = .returned (.bool b2) ∧ Below w.heap.size w w') (cL1 : ∀ w, Calls Tryd.prog 57 #[W s2, .int .i64 (min (x2 - x1) 200)] w fun e w' => e = .returned (.tuple #[W u1, .bool l1]) ∧ Below w.heap.size w w') (cL2 : ∀ w, Calls Tryd.prog 57 #[W s1, .int .i64 2] w fun e w' => e = .returned (.tuple #[W t1, .bool l2]) ∧ Below w.heap.size w w') (cL3 : ∀ w, Calls Tryd.prog 57 #[W u1, .int .i64 2] w fun e w' => e = .returned (.tuple #[W u2, .bool l3]) ∧ Below w.heap.size w w') (cJ : ∀ w, Tab w → Calls Tryd.prog 91 #[W t1, .int .i64 ((x2 - (min (x2 - x1) 200)) - x1)] w fun e w' => e = .returned (W t2) ∧ Below w.heap.size w w') (hbb : (b2 == b1) = true) (s r : Nat) (o : Bool) (fl er : Int) (cK : ∀ w, Tab w → Calls Tryd.prog 69 #[.int .u8 f, .int .u8 m, RV b2 s ((x2 - (min (x2 - x1) 200)) - 2) false] w fun e w' => e = .returned (.tuple #[BV r, .int .u8 fl, .int .i64 er]) ∧ Below w.heap.size w w') (cA : ∀ w, Calls Tryd.prog 60 #[W u2, W t2] w fun e w' => e = .returned (.tuple #[W s, .bool o]) ∧ Below w.heap.size w w') :
    Calls Tryd.prog 35 #[.int .u8 f, .int .u8 m, BV a, BV b] w fun e w' => e = .returned (.tuple #[BV r, .int .u8 fl, .int .i64 er]) ∧ Below w.heap.size w w' := by
  have H := Own.start w
  have HT := Lib.hid hT
  clear hT
  go_enter Tryd.func35, Tryd.ntmps35
  exact walkAd535
set_option maxHeartbeats 1600000 in
set_option maxRecDepth 100000 in
theorem addAdd_FF1_zero (f m a b : Nat) (c1 s1 f1 : Nat) (x1 : Int) (c2 s2 f2 : Nat) (x2 : Int) (c3 s3 f3 : Nat) (x3 : Int) (w : World) (hT : Tab w) (cO : ∀ w g, Tab w → Blk 26 w g (cat2 (bc a) (bc b)) → Calls Tryd.prog 86 #[.int .u8 f, .int .u8 m, .slice (some ⟨g, 0, none⟩) 2 2] w fun e w' => e = .returned (.tuple #[.agg (tri c1 s1 x1 f1 c2 s2 x2 f2 c3 s3 x3 f3), .bool true]) ∧ Below w.heap.size w w') (cn1 : ∀ w, Calls Tryd.prog 87 #[PV c1 s1 x1 f1] w fun e w' => e = .returned (.bool false) ∧ Below w.heap.size w w') (cn2 : ∀ w, Calls Tryd.prog 87 #[PV c2 s2 x2 f2] w fun e w' => e = .returned (.bool false) ∧ Below w.heap.size w w') (ci1 : ∀ w, Calls Tryd.prog 89 #[PV c1 s1 x1 f1] w fun e w' => e = .returned (.bool false) ∧ Below w.heap.size w w') (ci2 : ∀ w, Calls Tryd.prog 89 #[PV c2 s2 x2 f2] w fun e w' => e = .returned (.bool false) ∧ Below w.heap.size w w') (cz1 : ∀ w, Calls Tryd.prog 90 #[PV c1 s1 x1 f1] w fun e w' => e = .returned (.bool false) ∧ Below w.heap.size w w') (cz2 : ∀ w, Calls Tryd.prog 90 #[PV c2 s2 x2 f2] w fun e w' => e = .returned (.bool false) ∧ Below w.heap.size w w') (hx1 : -40000 ≤ x1) (hx1b : x1 ≤ 40000) (hx2 : -40000 ≤ x2) (hx2b : x2 ≤ 40000) (hs : x1 < x2) (u1 u2 t1 t2 : Nat) (l1 l2 l3 b1 b2 : Bool) (cb1 : ∀ w, Calls Tryd.prog 92 #[PV c1 s1 x1 f1] w fun e w' => e = .returned (.bool b1) ∧ Below w.heap.size w w') (cb2 : ∀ w, Calls Tryd.prog 92 #[PV c2 s2 x2 f2] w fun e w' => e = .returned (.bool b2) ∧ Below w.heap.size w w') (cL1 : ∀ w, Calls Tryd.prog 57 #[W s2, .int .i64 (min (x2 - x1) 200)] w fun e w' => e = .returned (.tuple #[W u1, .bool l1]) ∧ Below w.heap.size w w') (cL2 : ∀ w, Calls Tryd.prog 57 #[W s1, .int .i64 2] w fun e w' => e = .returned (.tuple #[W t1, .bool l2]) ∧ Below w.heap.size w w') (cL3 : ∀ w, Calls Tryd.prog 57 #[W u1, .int .i64 2] w fun e w' => e = .returned (.tuple #[W u2, .bool l3]) ∧ Below w.heap.size w w') (cJ : ∀ w, Tab w → Calls Tryd.prog 91 #[W t1, .int .i64 ((x2 - (min (x2 - x1) 200)) - x1)] w fun e w' => e = .returned (W t2) ∧ Below w.heap.size w w') (hbb : (b2 == b1) = false) (cC : ∀ w, Calls Tryd.prog 54 #[W u2, W t2] w fun e w' => e = .returned (.int .i64 0) ∧ Below w.heap.size w w') (zz : Nat) (cZZ : ∀ w, Calls Tryd.prog 38 #[.int .u8 f, .bool ((m : Int) == 2)] w fun e w' => e = .returned (BV zz) ∧ Below w.heap.size w w')  :
    Calls Tryd.prog 35 #[.int .u8 f, .int .u8 m, BV a, BV b] w fun e w' => e = .returned (.tuple #[BV zz, .int .u8 0, .int .i64 0]) ∧ Below w.heap.size w w' := by
  have H := Own.start w
  have HT := Lib.hid hT
  clear hT
  go_enter Tryd.func35, Tryd.ntmps35
  exact walkAd535
set_option maxHeartbeats 1600000 in
set_option maxRecDepth 100000 in
theorem addAdd_FF1_more (f m a b : Nat) (c1 s1 f1 : Nat) (x1 : Int) (c2 s2 f2 : Nat) (x2 : Int) (c3 s3 f3 : Nat) (x3 : Int) (w : World) (hT : Tab w) (cO : ∀ w g, Tab w → Blk 26 w g (cat2 (bc a) (bc b)) → Calls Tryd.prog 86 #[.int .u8 f, .int .u8 m, .slice (some ⟨g, 0, none⟩) 2 2] w fun e w' => e = .returned (.tuple #[.agg (tri c1 s1 x1 f1 c2 s2 x2 f2 c3 s3 x3 f3), .bool true]) ∧ Below w.heap.size w w') (cn1 : ∀ w, Calls Tryd.prog 87 #[PV c1 s1 x1 f1] w fun e w' => e = .returned (.bool false) ∧ Below w.heap.size w w') (cn2 : ∀ w, Calls Tryd.prog 87 #[PV c2 s2 x2 f2] w fun e w' => e = .returned (.bool false) ∧ Below w.heap.size w w') (ci1 : ∀ w, Calls Tryd.prog 89 #[PV c1 s1 x1 f1] w fun e w' => e = .returned (.bool false) ∧ Below w.heap.size w w') (ci2 : ∀ w, Calls Tryd.prog 89 #[PV c2 s2 x2 f2] w fun e w' => e = .returned (.bool false) ∧ Below w.heap.size w w') (cz1 : ∀ w, Calls Tryd.prog 90 #[PV c1 s1 x1 f1] w fun e w' => e = .returned (.bool false) ∧ Below w.heap.size w w') (cz2 : ∀ w, Calls Tryd.prog 90 #[PV c2 s2 x2 f2] w fun e w' => e = .returned (.bool false) ∧ Below w.heap.size w w') (hx1 : -40000 ≤ x1) (hx1b : x1 ≤ 40000) (hx2 : -40000 ≤ x2) (hx2b : x2 ≤ 40000) (hs : x1 < x2) (u1 u2 t1 t2 : Nat) (l1 l2 l3 b1 b2 : Bool) (cb1 : ∀ w, Calls Tryd.prog 92 #[PV c1 s1 x1 f1] w fun e w' => e = .returned (.bool b1) ∧ Below w.heap.size w w') (cb2 : ∀ w, Calls Tryd.prog 92 #[PV c2 s2 x2 f2] w fun e w' => e = .returned (.bool b2) ∧ Below w.heap.size w w') (cL1 : ∀ w, Calls Tryd.prog 57 #[W s2, .int .i64 (min (x2 - x1) 200)] w fun e w' => e = .returned (.tuple #[W u1, .bool l1]) ∧ Below w.heap.size w w') (cL2 : ∀ w, Calls Tryd.prog 57 #[W s1, .int .i64 2] w fun e w' => e = .returned (.tuple #[W t1, .bool l2]) ∧ Below w.heap.size w w') (cL3 : ∀ w, Calls Tryd.prog 57 #[W u1, .int .i64 2] w fun e w' => e = .returned (.tuple #[W u2, .bool l3]) ∧ Below w.heap.size w w') (cJ : ∀ w, Tab w → Calls Tryd.prog 91 #[W t1, .int .i64 ((x2 - (min (x2 - x1) 200)) - x1)] w fun e w' => e = .returned (W t2) ∧ Below w.heap.size w w') (hbb : (b2 == b1) = false) (cC : ∀ w, Calls Tryd.prog 54 #[W u2, W t2] w fun e w' => e = .returned (.int .i64 1) ∧ Below w.heap.size w w') (s r : Nat) (o : Bool) (fl er : Int) (cK : ∀ w, Tab w → Calls Tryd.prog 69 #[.int .u8 f, .int .u8 m, RV b2 s ((x2 - (min (x2 - x1) 200)) - 2) false] w fun e w' => e = .returned (.tuple #[BV r, .int .u8 fl, .int .i64 er]) ∧ Below w.heap.size w w') (cS : ∀ w, Calls Tryd.prog 93 #[W u2, W t2] w fun e w' => e = .returned (.tuple #[W s, .bool o]) ∧ Below w.heap.size w w') :
    Calls Tryd.prog 35 #[.int .u8 f, .int .u8 m, BV a, BV b] w fun e w' => e = .returned (.tuple #[BV r, .int .u8 fl, .int .i64 er]) ∧ Below w.heap.size w w' := by
  have H := Own.start w
  have HT := Lib.hid hT
  clear hT
  go_enter Tryd.func35, Tryd.ntmps35
  exact walkAd535
set_option maxHeartbeats 1600000 in
set_option maxRecDepth 100000 in
theorem addAdd_FF1_less (f m a b : Nat) (c1 s1 f1 : Nat) (x1 : Int) (c2 s2 f2 : Nat) (x2 : Int) (c3 s3 f3 : Nat) (x3 : Int) (w : World) (hT : Tab w) (cO : ∀ w g, Tab w → Blk 26 w g (cat2 (bc a) (bc b)) → Calls Tryd.prog 86 #[.int .u8 f, .int .u8 m, .slice (some ⟨g, 0, none⟩) 2 2] w fun e w' => e = .returned (.tuple #[.agg (tri c1 s1 x1 f1 c2 s2 x2 f2 c3 s3 x3 f3), .bool true]) ∧ Below w.heap.size w w') (cn1 : ∀ w, Calls Tryd.prog 87 #[PV c1 s1 x1 f1] w fun e w' => e = .returned (.bool false) ∧ Below w.heap.size w w') (cn2 : ∀ w, Calls Tryd.prog 87 #[PV c2 s2 x2 f2] w fun e w' => e = .returned (.bool false) ∧ Below w.heap.size w w') (ci1 : ∀ w, Calls Tryd.prog 89 #[PV c1 s1 x1 f1] w fun e w' => e = .returned (.bool false) ∧ Below w.heap.size w w') (ci2 : ∀ w, Calls Tryd.prog 89 #[PV c2 s2 x2 f2] w fun e w' => e = .returned (.bool false) ∧ Below w.heap.size w w') (cz1 : ∀ w, Calls Tryd.prog 90 #[PV c1 s1 x1 f1] w fun e w' => e = .returned (.bool false) ∧ Below w.heap.size w w') (cz2 : ∀ w, Calls Tryd.prog 90 #[PV c2 s2 x2 f2] w fun e w' => e = .returned (.bool false) ∧ Below w.heap.size w w') (hx1 : -40000 ≤ x1) (hx1b : x1 ≤ 40000) (hx2 : -40000 ≤ x2) (hx2b : x2 ≤ 40000) (hs : x1 < x2) (u1 u2 t1 t2 : Nat) (l1 l2 l3 b1 b2 : Bool) (cb1 : ∀ w, Calls Tryd.prog 92 #[PV c1 s1 x1 f1] w fun e w' => e = .returned (.bool b1) ∧ Below w.heap.size w w') (cb2 : ∀ w, Calls Tryd.prog 92 #[PV c2 s2 x2 f2] w fun e w' => e = .returned (.bool b2) ∧ Below w.heap.size w w') (cL1 : ∀ w, Calls Tryd.prog 57 #[W s2, .int .i64 (min (x2 - x1) 200)] w fun e w' => e = .returned (.tuple #[W u1, .bool l1]) ∧ Below w.heap.size w w') (cL2 : ∀ w, Calls Tryd.prog 57 #[W s1, .int .i64 2] w fun e w' => e = .returned (.tuple #[W t1, .bool l2]) ∧ Below w.heap.size w w') (cL3 : ∀ w, Calls Tryd.prog 57 #[W u1, .int .i64 2] w fun e w' => e = .returned (.tuple #[W u2, .bool l3]) ∧ Below w.heap.size w w') (cJ : ∀ w, Tab w → Calls Tryd.prog 91 #[W t1, .int .i64 ((x2 - (min (x2 - x1) 200)) - x1)] w fun e w' => e = .returned (W t2) ∧ Below w.heap.size w w') (hbb : (b2 == b1) = false) (cC : ∀ w, Calls Tryd.prog 54 #[W u2, W t2] w fun e w' => e = .returned (.int .i64 (-1)) ∧ Below w.heap.size w w') (s r : Nat) (o : Bool) (fl er : Int) (cK : ∀ w, Tab w → Calls Tryd.prog 69 #[.int .u8 f, .int .u8 m, RV b1 s ((x2 - (min (x2 - x1) 200)) - 2) false] w fun e w' => e = .returned (.tuple #[BV r, .int .u8 fl, .int .i64 er]) ∧ Below w.heap.size w w') (cS : ∀ w, Calls Tryd.prog 93 #[W t2, W u2] w fun e w' => e = .returned (.tuple #[W s, .bool o]) ∧ Below w.heap.size w w') :
    Calls Tryd.prog 35 #[.int .u8 f, .int .u8 m, BV a, BV b] w fun e w' => e = .returned (.tuple #[BV r, .int .u8 fl, .int .i64 er]) ∧ Below w.heap.size w w' := by
  have H := Own.start w
  have HT := Lib.hid hT
  clear hT
  go_enter Tryd.func35, Tryd.ntmps35
  exact walkAd535
end Go.Proofs.YtjgonofkklpgaaaDoor

namespace Go.Proofs.YtjgonofkklpgaaaDoor
theorem infB_cases (c : Nat) (h : infB c = true) : c = 0 ∨ c = 7 := by unfold infB at h; simpa using h
theorem sigN_113 (f a : Nat) (hf : fitsB f a = true) : sigN f a < 2 ^ 113 := by
  have h4 := ((fits_iff f a).1 hf).1
  have hp := pF_113 f
  rcases cls_sort f a with c | c | c | c
  · unfold sigN; rw [if_neg (by omega), if_neg (by omega)]; exact two_pos 113
  · unfold sigN; rw [if_neg (by omega), if_neg (by omega)]; exact two_pos 113
  · unfold sigN; rw [if_neg (by omega), if_neg (by omega)]; exact two_pos 113
  · have := (can_of f a hf c).1.lt
    exact Nat.lt_of_lt_of_le this (Nat.pow_le_pow_right (by decide) hp)
theorem xpN_bound (f a : Nat) (hf : fitsB f a = true) : -40000 ≤ xpN f a ∧ xpN f a ≤ 40000 := by
  have h4 := ((fits_iff f a).1 hf).1
  obtain ⟨h1, h2, h3, h5, h6, h7, h8, h9⟩ := formK f h4
  rcases cls_sort f a with c | c | c | c
  · unfold xpN; rw [if_neg (by omega), if_neg (by omega)]; omega
  · unfold xpN; rw [if_neg (by omega), if_neg (by omega)]; omega
  · unfold xpN; rw [if_neg (by omega), if_neg (by omega)]; omega
  · have hc := (can_of f a hf c).1
    have := hc.ge; have := hc.le; omega
theorem below_fits (f a : Nat) (h : fitsB f a = true) : a < 2 ^ (64 * 2) := by
  obtain ⟨h4, hb⟩ := (fits_iff f a).1 h
  exact Nat.lt_of_lt_of_le hb (Nat.pow_le_pow_right (by decide) (by have := (formB f h4).2.2.2.1; omega))
theorem canon_flag (b : Bool) : (cond b (16 : Int) 0) = ((cond b 16 0 : Nat) : Int) := by cases b <;> rfl
end Go.Proofs.YtjgonofkklpgaaaDoor

namespace Go.Proofs.YtjgonofkklpgaaaDoor
theorem jamN_lt (y k n : Nat) (hn : 1 ≤ n) (h : y < 2 ^ n) : jamN y k < 2 ^ n := by
  obtain ⟨i, rfl⟩ : ∃ i, n = i + 1 := ⟨n - 1, by omega⟩
  have hd : y / 2 ^ k ≤ y := Nat.div_le_self _ _
  rw [Nat.pow_succ] at *
  unfold jamN
  split
  · omega
  · rw [or_one]; omega
theorem pack_ok (f m s : Nat) (neg : Bool) (e : Int) (hf : f < 4) (hm : m < 5) (h1 : -1048576 ≤ e) (h2 : e ≤ 1048576) (h0 : s ≠ 0) :
    packN f m neg s e false = ((packB f m neg s e false).1, (packB f m neg s e false).2, 0) := by
  unfold packN packOk
  rw [decide_eq_true hf, decide_eq_true hm, decide_eq_true h1, decide_eq_true h2, if_neg h0]; rfl
theorem sig_ne (f a : Nat) (hfa : fitsB f a = true) (h1 : nanB (clsN f a) = false) (i1 : infB (clsN f a) = false) (z1 : zerB (clsN f a) = false) : sigN f a ≠ 0 := by
  intro h0
  have := (sig_zero f a hfa (by intro h; rw [show nanB (clsN f a) = true from decide_eq_true h] at h1; cases h1) (by intro h; rw [show infB (clsN f a) = true by unfold infB; rcases h with h | h <;> rw [h] <;> rfl] at i1; cases i1)).1 h0
  rw [show zerB (clsN f a) = true by unfold zerB; rcases this with h | h <;> rw [h] <;> rfl] at z1; cases z1
theorem inf_zer (c : Nat) (h : infB c = true) : zerB c = false := by rcases infB_cases c h with rfl | rfl <;> rfl
theorem cast_beq (a b : Nat) : ((a : Int) == (b : Int)) = decide (a = b) := by
  by_cases h : a = b
  · subst h; simp
  · rw [decide_eq_false h]
    exact beq_eq_false_iff_ne.2 (by omega)
theorem lt_113_6 (x n : Nat) (hn : n ≤ 384) (h : x < 2 ^ n) : x < top6 := lt_pwr top6 n (64 * 6) _ top6.eq_1 hn h
theorem mul_pow_lt (x n k : Nat) (h : x < 2 ^ n) : x * 2 ^ k < 2 ^ (n + k) := by
  rw [Nat.pow_add]; exact Nat.mul_lt_mul_of_pos_right h (two_pos k)
theorem lt_up (x a b : Nat) (h : x < 2 ^ a) (hab : a ≤ b) : x < 2 ^ b := Nat.lt_of_lt_of_le h (Nat.pow_le_pow_right (by decide) hab)
theorem add_lt_pow (S t n : Nat) (h1 : S < 2 ^ n) (h2 : t < 2 ^ n) : S + t < 2 ^ (n + 1) := by rw [Nat.pow_succ]; omega
theorem sub_lt_pow (S t n : Nat) (h1 : S < 2 ^ n) : S - t < 2 ^ (n + 1) := by rw [Nat.pow_succ]; omega
theorem add_lt_pow2 (S t n k : Nat) (hk : n + 1 = k) (h1 : S < 2 ^ n) (h2 : t < 2 ^ n) : S + t < 2 ^ k := by subst hk; exact add_lt_pow S t n h1 h2
theorem sub_lt_pow2 (S t n k : Nat) (hk : n + 1 = k) (h1 : S < 2 ^ n) : S - t < 2 ^ k := by subst hk; exact sub_lt_pow S t n h1
theorem sub_ne (S t : Nat) (h : t < S) : S - t ≠ 0 := by omega
theorem add_ne (S t : Nat) (h : S ≠ 0) : S + t ≠ 0 := by omega
end Go.Proofs.YtjgonofkklpgaaaDoor

namespace Go.Proofs.YtjgonofkklpgaaaDoor
open Go.RowKit
/-- What add.open answers. -/
theorem addOpen_any (f m a b : Nat) (hf : f < 256) (hm : m < 256) (ha : a < 2 ^ (64 * 2)) (hb : b < 2 ^ (64 * 2)) :
    ∃ c1 s1 f1 x1 c2 s2 f2 x2, (binOk f m a b = true → c1 = clsN f a ∧ s1 = sigN f a ∧ x1 = xpN f a ∧ f1 = frN f a ∧ c2 = clsN f b ∧ s2 = sigN f b ∧ x2 = xpN f b ∧ f2 = frN f b) ∧
    ∀ (w : World) (g : Nat), Tab w → Blk 26 w g (cat2 (bc a) (bc b)) → Calls Tryd.prog 86 #[.int .u8 f, .int .u8 m, .slice (some ⟨g, 0, none⟩) 2 2] w fun e w' => e = .returned (.tuple #[.agg (tri c1 s1 x1 f1 c2 s2 x2 f2 0 0 0 0), .bool (binOk f m a b)]) ∧ Below w.heap.size w w' := by
  have cM := fun w => shapeCheckMode_any m w hm
  have cF := fun w => shapeCheck_any f w hf
  by_cases hm5 : m < 5
  case neg =>
    have e : binOk f m a b = false := by unfold binOk; rw [decide_eq_false hm5]; simp
    rw [decide_eq_false hm5] at cM
    rw [e]
    exact ⟨0, 0, 0, 0, 0, 0, 0, 0, (fun h => by cases h), fun w g _ hB => add_open2_mode f m a b w g hB cM⟩
  rw [decide_eq_true hm5] at cM
  by_cases hf4 : f < 4
  case neg =>
    have e : binOk f m a b = false := by unfold binOk; rw [decide_eq_false hf4]; simp
    rw [decide_eq_false hf4] at cF
    rw [e]
    exact ⟨0, 0, 0, 0, 0, 0, 0, 0, (fun h => by cases h), fun w g _ hB => add_open2_form f m a b w g hB cM cF⟩
  rw [decide_eq_true hf4] at cF
  cases ha' : fitsB f a
  · have e : binOk f m a b = false := by unfold binOk; rw [ha']; simp
    rw [e]
    exact ⟨0, 0, 0, 0, 0, 0, 0, 0, (fun h => by cases h), fun w g hT hB => add_open2_no0 f m a b w hT g hB cM cF (fun w _ => kindUnpack_not f a w ha ha')⟩
  cases hb' : fitsB f b
  · have e : binOk f m a b = false := by unfold binOk; rw [hb']; simp
    rw [e]
    exact ⟨_, _, _, _, 0, 0, 0, 0, (fun h => by cases h), fun w g hT hB => add_open2_no1 f m a b w hT g hB cM cF (fun w hT => kindUnpack_yes f a w ha' hT) (fun w _ => kindUnpack_not f b w hb hb')⟩
  have e : binOk f m a b = true := by unfold binOk; rw [ha', hb', decide_eq_true hm5, decide_eq_true hf4]; rfl
  rw [e]
  exact ⟨_, _, _, _, _, _, _, _, fun _ => ⟨rfl, rfl, rfl, rfl, rfl, rfl, rfl, rfl⟩, fun w g hT hB => add_open2_ok f m a b w hT g hB cM cF (fun w hT => kindUnpack_yes f a w ha' hT) (fun w hT => kindUnpack_yes f b w hb' hT)⟩
theorem addAdd_any (f m a b : Nat) (w : World) (hf : f < 256) (hm : m < 256) (ha : a < 2 ^ (64 * 2)) (hb : b < 2 ^ (64 * 2)) (hT : Tab w) :
    Calls Tryd.prog 35 #[.int .u8 f, .int .u8 m, BV a, BV b] w fun e w' => e = .returned (.tuple #[BV (addN f m a b).1, .int .u8 ((addN f m a b).2.1 : Nat), .int .i64 (addN f m a b).2.2]) ∧ Below w.heap.size w w' := by
  obtain ⟨c1, s1, f1, x1, c2, s2, f2, x2, hv, cO⟩ := addOpen_any f m a b hf hm ha hb
  cases hok : binOk f m a b
  · have hN : addN f m a b = (0, 0, 2) := by unfold addN; rw [hok]; rfl
    rw [hok] at cO
    rw [hN]
    exact addAdd_no f m a b _ _ _ _ _ _ _ _ _ _ _ _ w hT cO
  obtain ⟨rfl, rfl, rfl, rfl, rfl, rfl, rfl, rfl⟩ := hv hok
  have hN : addN f m a b = ((addR f m a b).1, (addR f m a b).2, 0) := by unfold addN; rw [hok]; rfl
  rw [hN]
  rw [hok] at cO
  obtain ⟨⟨hf4', hm5'⟩, hfa, hfb⟩ : (decide (f < 4) = true ∧ decide (m < 5) = true) ∧ fitsB f a = true ∧ fitsB f b = true := by unfold binOk at hok; simp only [Bool.and_eq_true] at hok; exact hok
  have hf4 := of_decide_eq_true hf4'
  have hm5 := of_decide_eq_true hm5'
  have cb1 := fun w => add_below (clsN f a) (sigN f a) (frN f a) (xpN f a) w
  have cb2 := fun w => add_below (clsN f b) (sigN f b) (frN f b) (xpN f b) w
  have cn1 := fun w => add_nan (clsN f a) (sigN f a) (frN f a) (xpN f a) w
  have cn2 := fun w => add_nan (clsN f b) (sigN f b) (frN f b) (xpN f b) w
  have ci1 := fun w => add_inf (clsN f a) (sigN f a) (frN f a) (xpN f a) w
  have ci2 := fun w => add_inf (clsN f b) (sigN f b) (frN f b) (xpN f b) w
  have cz1 := fun w => add_nought (clsN f a) (sigN f a) (frN f a) (xpN f a) w
  have cz2 := fun w => add_nought (clsN f b) (sigN f b) (frN f b) (xpN f b) w
  have cN := fun w => shapeNaN_any f w hf
  have cC := fun w g hB => add_canon f (clsN f a) (sigN f a) (frN f a) (xpN f a) (clsN f b) (sigN f b) (frN f b) (xpN f b) w g hB cN
  have cZ := fun w => shapeZero_any f (decide (m = 2)) w hf
  have em : ((m : Int) == 2) = decide (m = 2) := cast_beq m 2
  rw [← em] at cZ
  unfold addR canonR
  rw [← em]
  cases h1 : nanB (clsN f a)
  case true =>
    rw [h1] at cn1
    rw [canon_flag] at cC
    exact addAdd_N1 f m a b _ _ _ _ _ _ _ _ 0 0 0 0 w hT cO cn1 _ _ cC
  rw [h1] at cn1
  cases h2 : nanB (clsN f b)
  case true =>
    rw [h2] at cn2
    rw [canon_flag] at cC
    exact addAdd_N2 f m a b _ _ _ _ _ _ _ _ 0 0 0 0 w hT cO cn1 cn2 _ _ cC
  rw [h2] at cn2
  have hc := cast_beq (clsN f a) (clsN f b)
  cases i1 : infB (clsN f a) <;> cases z1 : zerB (clsN f a) <;> cases i2 : infB (clsN f b) <;> cases z2 : zerB (clsN f b) <;> rw [i1] at ci1 <;> rw [z1] at cz1 <;> rw [i2] at ci2 <;> rw [z2] at cz2
  · (
    obtain ⟨g1, g2⟩ := xpN_bound f a hfa
    obtain ⟨g3, g4⟩ := xpN_bound f b hfb
    have qa := sigN_113 f a hfa
    have qb := sigN_113 f b hfb
    have ta := lt_113_6 _ _ (by decide) qa
    have tb := lt_113_6 _ _ (by decide) qb
    have na := sig_ne f a hfa h1 i1 z1
    have nb := sig_ne f b hfb h2 i2 z2
    simp only [Bool.or_self, Bool.false_eq_true, if_false, Bool.and_self, Bool.false_and]
    (try rw [em])
    rw [em] at cZ
    have cZ : ∀ w, Calls Tryd.prog 38 #[.int .u8 f, .bool ((m : Int) == 2)] w fun e w' => e = .returned (BV (zeroN f (decide (m = 2)))) ∧ Below w.heap.size w w' := by rw [em]; exact cZ
    by_cases hs : xpN f a < xpN f b
    · (
      have hle : xpN f a ≤ xpN f b := by omega
      have hcore := add_core f m (belowN4 (clsN f b)) (sigN f b) (xpN f b) (belowN4 (clsN f a)) (sigN f a) (xpN f a) hf4 nb na qa hle
      have hup : min (xpN f b - xpN f a) 200 = ((addUp (xpN f b) (xpN f a) : Nat) : Int) := by unfold addUp; omega
      obtain ⟨u, hu⟩ : ∃ u, addUp (xpN f b) (xpN f a) = u := ⟨_, rfl⟩
      rw [hu] at hcore hup
      have hu2 : u ≤ 200 := by omega
      have cL1 := fun w => wideLeft_n (sigN f b) (min (xpN f b - xpN f a) 200) w tb
      rw [show (min (xpN f b - xpN f a) 200).toNat = u by omega] at cL1
      have b1 := mul_pow_lt (sigN f b) 113 u qb
      have b2 := mul_pow_lt _ _ 2 b1
      have b3 := mul_pow_lt (sigN f a) 113 2 qa
      have cL3 := fun w => wideLeft_n (sigN f b * 2 ^ u) 2 w (lt_113_6 _ _ (by omega) b1)
      have cL2 := fun w => wideLeft_n (sigN f a) 2 w ta
      rw [show (2 : Int).toNat = 2 from rfl] at cL2 cL3
      have cJ := fun w hT => jamRight_any (sigN f a * 2 ^ 2) (xpN f b - min (xpN f b - xpN f a) 200 - xpN f a) w (lt_113_6 _ _ (by decide) b3) hT
      have b4 := jamN_lt (sigN f a * 2 ^ 2) (xpN f b - min (xpN f b - xpN f a) 200 - xpN f a).toNat (113 + 2) (by decide) b3
      have hE : xpN f b - min (xpN f b - xpN f a) 200 - 2 = xpN f b - u - 2 := by rw [hup]
      have hjk : (xpN f b - min (xpN f b - xpN f a) 200 - xpN f a).toNat = (xpN f b - u - xpN f a).toNat := by rw [hup]
      rw [hjk] at cJ b4
      have hS0 : sigN f b * 2 ^ u * 2 ^ 2 ≠ 0 := by
        have := Nat.pos_of_ne_zero nb
        exact Nat.ne_of_gt (Nat.mul_pos (Nat.mul_pos this (two_pos _)) (by decide))
      obtain ⟨S, hS⟩ : ∃ S, sigN f b * 2 ^ u * 2 ^ 2 = S := ⟨_, rfl⟩
      obtain ⟨t, ht⟩ : ∃ t, jamN (sigN f a * 2 ^ 2) (xpN f b - u - xpN f a).toNat = t := ⟨_, rfl⟩
      rw [hS] at b2 cL3 hcore hS0
      rw [ht] at cJ b4 hcore
      have tS := Lib.hid (lt_up S (113 + u + 2) 315 b2 (by clear b1 b2 b3 b4; omega))
      have tt := Lib.hid (lt_up t (113 + 2) 315 b4 (by decide))
      have cK := fun neg s (hs : s < 2 ^ 316) w hT => roundPack_any f m s (xpN f b - min (xpN f b - xpN f a) 200 - 2) neg false w hT hf hm (lt_113_6 _ _ (by decide) hs)
      have hP := fun neg s (hs : s ≠ 0) => pack_ok f m s neg (xpN f b - min (xpN f b - xpN f a) 200 - 2) hf4 hm5 (by omega) (by omega) hs
      rw [sumX_swap]; rw [← hcore]
      rw [← hE]
      unfold sumJ
      by_cases hne : belowN4 (clsN f b) = belowN4 (clsN f a)
      · rw [if_pos hne]
        have cA := fun w => wideAdd_any S t w
        have k := cK (belowN4 (clsN f b)) (S + t) (add_lt_pow2 S t 315 316 rfl tS.out tt.out)
        rw [hP _ _ (add_ne S t hS0)] at k
        exact addAdd_FF1_same f m a b _ _ _ _ _ _ _ _ 0 0 0 0 w hT cO cn1 cn2 ci1 ci2 cz1 cz2 g1 g2 g3 g4 hs _ _ _ _ _ _ _ _ _ cb1 cb2 cL1 cL2 cL3 cJ (beq_iff_eq.2 hne) _ _ _ _ _ k cA
      · rw [if_neg hne]
        have hb : (belowN4 (clsN f b) == belowN4 (clsN f a)) = false := beq_eq_false_iff_ne.2 hne
        have tS6 := lt_113_6 _ _ (by decide) tS.out
        have tt6 := lt_113_6 _ _ (by decide) tt.out
        have cC' := fun w => wideCmp_any S t w tS6 tt6
        by_cases hst : S = t
        · rw [if_pos hst]
          rw [show cmpN S t = 0 by unfold cmpN; rw [if_neg (by omega), if_neg (by omega)]] at cC'
          exact addAdd_FF1_zero f m a b _ _ _ _ _ _ _ _ 0 0 0 0 w hT cO cn1 cn2 ci1 ci2 cz1 cz2 g1 g2 g3 g4 hs _ _ _ _ _ _ _ _ _ cb1 cb2 cL1 cL2 cL3 cJ hb cC' _ cZ
        · rw [if_neg hst]
          by_cases hlt : t < S
          · rw [if_pos hlt]
            rw [show cmpN S t = 1 by unfold cmpN; rw [if_neg (by omega), if_pos hlt]] at cC'
            have cS := fun w => wideSub_any S t w tt6
            unfold W at cS
            rw [limbs_sub S t (Nat.le_of_lt hlt)] at cS
            have k := cK (belowN4 (clsN f b)) (S - t) (sub_lt_pow2 S t 315 316 rfl tS.out)
            rw [hP _ _ (sub_ne S t hlt)] at k
            exact addAdd_FF1_more f m a b _ _ _ _ _ _ _ _ 0 0 0 0 w hT cO cn1 cn2 ci1 ci2 cz1 cz2 g1 g2 g3 g4 hs _ _ _ _ _ _ _ _ _ cb1 cb2 cL1 cL2 cL3 cJ hb cC' _ _ _ _ _ k cS
          · rw [if_neg hlt]
            rw [show cmpN S t = -1 by unfold cmpN; rw [if_pos (by omega)]] at cC'
            have cS := fun w => wideSub_any t S w tS6
            unfold W at cS
            rw [limbs_sub t S (by omega)] at cS
            have k := cK (belowN4 (clsN f a)) (t - S) (sub_lt_pow2 t S 315 316 rfl tt.out)
            rw [hP _ _ (sub_ne t S (by clear tS tt b2 b4; omega))] at k
            exact addAdd_FF1_less f m a b _ _ _ _ _ _ _ _ 0 0 0 0 w hT cO cn1 cn2 ci1 ci2 cz1 cz2 g1 g2 g3 g4 hs _ _ _ _ _ _ _ _ _ cb1 cb2 cL1 cL2 cL3 cJ hb cC' _ _ _ _ _ k cS)
    · (
      have hle : xpN f b ≤ xpN f a := by omega
      have hcore := add_core f m (belowN4 (clsN f a)) (sigN f a) (xpN f a) (belowN4 (clsN f b)) (sigN f b) (xpN f b) hf4 na nb qb hle
      have hup : min (xpN f a - xpN f b) 200 = ((addUp (xpN f a) (xpN f b) : Nat) : Int) := by unfold addUp; omega
      obtain ⟨u, hu⟩ : ∃ u, addUp (xpN f a) (xpN f b) = u := ⟨_, rfl⟩
      rw [hu] at hcore hup
      have hu2 : u ≤ 200 := by omega
      have cL1 := fun w => wideLeft_n (sigN f a) (min (xpN f a - xpN f b) 200) w ta
      rw [show (min (xpN f a - xpN f b) 200).toNat = u by omega] at cL1
      have b1 := mul_pow_lt (sigN f a) 113 u qa
      have b2 := mul_pow_lt _ _ 2 b1
      have b3 := mul_pow_lt (sigN f b) 113 2 qb
      have cL3 := fun w => wideLeft_n (sigN f a * 2 ^ u) 2 w (lt_113_6 _ _ (by omega) b1)
      have cL2 := fun w => wideLeft_n (sigN f b) 2 w tb
      rw [show (2 : Int).toNat = 2 from rfl] at cL2 cL3
      have cJ := fun w hT => jamRight_any (sigN f b * 2 ^ 2) (xpN f a - min (xpN f a - xpN f b) 200 - xpN f b) w (lt_113_6 _ _ (by decide) b3) hT
      have b4 := jamN_lt (sigN f b * 2 ^ 2) (xpN f a - min (xpN f a - xpN f b) 200 - xpN f b).toNat (113 + 2) (by decide) b3
      have hE : xpN f a - min (xpN f a - xpN f b) 200 - 2 = xpN f a - u - 2 := by rw [hup]
      have hjk : (xpN f a - min (xpN f a - xpN f b) 200 - xpN f b).toNat = (xpN f a - u - xpN f b).toNat := by rw [hup]
      rw [hjk] at cJ b4
      have hS0 : sigN f a * 2 ^ u * 2 ^ 2 ≠ 0 := by
        have := Nat.pos_of_ne_zero na
        exact Nat.ne_of_gt (Nat.mul_pos (Nat.mul_pos this (two_pos _)) (by decide))
      obtain ⟨S, hS⟩ : ∃ S, sigN f a * 2 ^ u * 2 ^ 2 = S := ⟨_, rfl⟩
      obtain ⟨t, ht⟩ : ∃ t, jamN (sigN f b * 2 ^ 2) (xpN f a - u - xpN f b).toNat = t := ⟨_, rfl⟩
      rw [hS] at b2 cL3 hcore hS0
      rw [ht] at cJ b4 hcore
      have tS := Lib.hid (lt_up S (113 + u + 2) 315 b2 (by clear b1 b2 b3 b4; omega))
      have tt := Lib.hid (lt_up t (113 + 2) 315 b4 (by decide))
      have cK := fun neg s (hs : s < 2 ^ 316) w hT => roundPack_any f m s (xpN f a - min (xpN f a - xpN f b) 200 - 2) neg false w hT hf hm (lt_113_6 _ _ (by decide) hs)
      have hP := fun neg s (hs : s ≠ 0) => pack_ok f m s neg (xpN f a - min (xpN f a - xpN f b) 200 - 2) hf4 hm5 (by omega) (by omega) hs
      rw [← hcore]
      rw [← hE]
      unfold sumJ
      by_cases hne : belowN4 (clsN f a) = belowN4 (clsN f b)
      · rw [if_pos hne]
        have cA := fun w => wideAdd_any S t w
        have k := cK (belowN4 (clsN f a)) (S + t) (add_lt_pow2 S t 315 316 rfl tS.out tt.out)
        rw [hP _ _ (add_ne S t hS0)] at k
        exact addAdd_FF0_same f m a b _ _ _ _ _ _ _ _ 0 0 0 0 w hT cO cn1 cn2 ci1 ci2 cz1 cz2 g1 g2 g3 g4 hs _ _ _ _ _ _ _ _ _ cb1 cb2 cL1 cL2 cL3 cJ (beq_iff_eq.2 hne) _ _ _ _ _ k cA
      · rw [if_neg hne]
        have hb : (belowN4 (clsN f a) == belowN4 (clsN f b)) = false := beq_eq_false_iff_ne.2 hne
        have tS6 := lt_113_6 _ _ (by decide) tS.out
        have tt6 := lt_113_6 _ _ (by decide) tt.out
        have cC' := fun w => wideCmp_any S t w tS6 tt6
        by_cases hst : S = t
        · rw [if_pos hst]
          rw [show cmpN S t = 0 by unfold cmpN; rw [if_neg (by omega), if_neg (by omega)]] at cC'
          exact addAdd_FF0_zero f m a b _ _ _ _ _ _ _ _ 0 0 0 0 w hT cO cn1 cn2 ci1 ci2 cz1 cz2 g1 g2 g3 g4 hs _ _ _ _ _ _ _ _ _ cb1 cb2 cL1 cL2 cL3 cJ hb cC' _ cZ
        · rw [if_neg hst]
          by_cases hlt : t < S
          · rw [if_pos hlt]
            rw [show cmpN S t = 1 by unfold cmpN; rw [if_neg (by omega), if_pos hlt]] at cC'
            have cS := fun w => wideSub_any S t w tt6
            unfold W at cS
            rw [limbs_sub S t (Nat.le_of_lt hlt)] at cS
            have k := cK (belowN4 (clsN f a)) (S - t) (sub_lt_pow2 S t 315 316 rfl tS.out)
            rw [hP _ _ (sub_ne S t hlt)] at k
            exact addAdd_FF0_more f m a b _ _ _ _ _ _ _ _ 0 0 0 0 w hT cO cn1 cn2 ci1 ci2 cz1 cz2 g1 g2 g3 g4 hs _ _ _ _ _ _ _ _ _ cb1 cb2 cL1 cL2 cL3 cJ hb cC' _ _ _ _ _ k cS
          · rw [if_neg hlt]
            rw [show cmpN S t = -1 by unfold cmpN; rw [if_pos (by omega)]] at cC'
            have cS := fun w => wideSub_any t S w tS6
            unfold W at cS
            rw [limbs_sub t S (by omega)] at cS
            have k := cK (belowN4 (clsN f b)) (t - S) (sub_lt_pow2 t S 315 316 rfl tt.out)
            rw [hP _ _ (sub_ne t S (by clear tS tt b2 b4; omega))] at k
            exact addAdd_FF0_less f m a b _ _ _ _ _ _ _ _ 0 0 0 0 w hT cO cn1 cn2 ci1 ci2 cz1 cz2 g1 g2 g3 g4 hs _ _ _ _ _ _ _ _ _ cb1 cb2 cL1 cL2 cL3 cJ hb cC' _ _ _ _ _ k cS))
  · exact addAdd_FZ f m a b _ _ _ _ _ _ _ _ 0 0 0 0 w hT cO cn1 cn2 ci1 ci2 cz1 cz2 
  · exact addAdd_FI f m a b _ _ _ _ _ _ _ _ 0 0 0 0 w hT cO cn1 cn2 ci1 ci2 cz1 cz2 
  · exact absurd (inf_zer _ i2) (by rw [z2]; decide)
  · exact addAdd_ZF f m a b _ _ _ _ _ _ _ _ 0 0 0 0 w hT cO cn1 cn2 ci1 ci2 cz1 cz2 
  · (
    by_cases he : clsN f a = clsN f b
    · rw [decide_eq_true he] at hc; rw [if_pos he]
      exact addAdd_ZZs f m a b _ _ _ _ _ _ _ _ 0 0 0 0 w hT cO cn1 cn2 ci1 ci2 cz1 cz2  hc
    · rw [decide_eq_false he] at hc; rw [if_neg he]
      exact addAdd_ZZd f m a b _ _ _ _ _ _ _ _ 0 0 0 0 w hT cO cn1 cn2 ci1 ci2 cz1 cz2  hc _ cZ)
  · exact addAdd_ZI f m a b _ _ _ _ _ _ _ _ 0 0 0 0 w hT cO cn1 cn2 ci1 ci2 cz1 cz2 
  · exact absurd (inf_zer _ i2) (by rw [z2]; decide)
  · exact addAdd_IF f m a b _ _ _ _ _ _ _ _ 0 0 0 0 w hT cO cn1 cn2 ci1 ci2 cz1 cz2 
  · exact addAdd_IZ f m a b _ _ _ _ _ _ _ _ 0 0 0 0 w hT cO cn1 cn2 ci1 ci2 cz1 cz2 
  · (
    by_cases he : clsN f a = clsN f b
    · rw [decide_eq_true he] at hc ⊢
      exact addAdd_IIs f m a b _ _ _ _ _ _ _ _ 0 0 0 0 w hT cO cn1 cn2 ci1 ci2 cz1 cz2  hc
    · rw [decide_eq_false he] at hc ⊢
      exact addAdd_IId f m a b _ _ _ _ _ _ _ _ 0 0 0 0 w hT cO cn1 cn2 ci1 ci2 cz1 cz2  hc _ cN)
  · exact absurd (inf_zer _ i2) (by rw [z2]; decide)
  · exact absurd (inf_zer _ i1) (by rw [z1]; decide)
  · exact absurd (inf_zer _ i1) (by rw [z1]; decide)
  · exact absurd (inf_zer _ i1) (by rw [z1]; decide)
  · exact absurd (inf_zer _ i1) (by rw [z1]; decide)
end Go.Proofs.YtjgonofkklpgaaaDoor

namespace Go.Proofs.YtjgonofkklpgaaaDoor
open Go.RowKit
set_option maxHeartbeats 1600000 in
set_option maxRecDepth 100000 in
theorem addAlive_w (w : World) (hT : Tab w) (cA : ∀ w, Tab w → Calls Tryd.prog 35 #[.int .u8 2, .int .u8 0, .agg #[.int .u64 0, .int .u64 15360], .agg #[.int .u64 0, .int .u64 15360]] w fun e w' => e = .returned (.tuple #[.agg #[.int .u64 0, .int .u64 16384], .int .u8 0, .int .i64 0]) ∧ Below w.heap.size w w') :
    Calls Tryd.prog 37 #[] w fun e w' => e = .returned (.bool true) ∧ Below w.heap.size w w' := by
  have H := Own.start w
  have HT := Lib.hid hT
  clear hT
  go_enter Tryd.func37, Tryd.ntmps37
  go_wp2_with (first
    | ((with_reducible show wpList _ _ _ (⟨_, .box _ _, _, _, _, _⟩ :: _) _ _); refine H.box rfl rfl (cells_agg _) ?_; (intro g w H; simp only [Act.put, List.setIfInBounds_toArray, List.set_cons_zero, List.set_cons_succ]))
    | ((with_reducible show wpList _ _ _ (⟨_, .alloc 26, _, _, _, _⟩ :: _) _ _); refine H.mk0 rfl rB rfl ?_; (intro g w H; simp only [Act.put, List.setIfInBounds_toArray, List.set_cons_zero, List.set_cons_succ]))
    | ((with_reducible show wpList _ _ _ (⟨_, .load 26 _, _, _, _, _⟩ :: _) _ _); refine H.ld rfl rB rfl rfl (by repeat (first | with_reducible exact List.mem_cons_self | apply List.mem_cons_of_mem)) (by first | with_reducible exact ext_2 _ _) (by rfl) ?_; simp only [Act.put, List.setIfInBounds_toArray, List.set_cons_zero, List.set_cons_succ])
    | ((with_reducible show wpList _ _ _ (⟨_, .store 26 _ _, _, _, _, _⟩ :: _) _ _); refine H.st rfl rB rfl rfl (cells_agg _) (by repeat (first | with_reducible exact Upd.head _ | apply Upd.tail)) (set_bits _ _ _ _) (by rfl) (by exact one_of rfl) (by first | exact ble_le rfl | (change _ + 1 ≤ 12; omega) | (change _ + 1 ≤ 6; omega)) ?_; (intro w H; simp only [Act.put]))
    | (go_at_call 35; ((with_reducible refine (cA _ (HT.out.below H.below)).mono ?_); rintro e w ⟨rfl, hb⟩; replace H := H.call hb; clear hb))
    )
  all_goals
    go_ret
    exact ⟨rfl, H.below⟩
theorem addAlive_any (w : World) (hT : Tab w) : Calls Tryd.prog 37 #[] w fun e w' => e = .returned (.bool true) ∧ Below w.heap.size w w' := by
  refine addAlive_w w hT fun w hT => ?_
  have := addAdd_any 2 0 15360 15360 w (by decide) (by decide) (by decide) (by decide) hT
  rw [show addN 2 0 15360 15360 = (16384, 0, 0) by decide +kernel] at this
  exact this
theorem walkLat36 {P : Prop} (h : P := by
  go_wp2_with (first
    | ((with_reducible show wpList _ _ _ (⟨_, .box _ _, _, _, _, _⟩ :: _) _ _); refine H.box rfl rfl (cells_agg _) ?_; (intro g w H; simp only [Act.put, List.setIfInBounds_toArray, List.set_cons_zero, List.set_cons_succ]))
    | ((with_reducible show wpList _ _ _ (⟨_, .alloc 26, _, _, _, _⟩ :: _) _ _); refine H.mk0 rfl rB rfl ?_; (intro g w H; simp only [Act.put, List.setIfInBounds_toArray, List.set_cons_zero, List.set_cons_succ]))
    | ((with_reducible show wpList _ _ _ (⟨_, .load 26 _, _, _, _, _⟩ :: _) _ _); refine H.ld rfl rB rfl rfl (by repeat (first | with_reducible exact List.mem_cons_self | apply List.mem_cons_of_mem)) (by first | with_reducible exact ext_2 _ _) (by rfl) ?_; simp only [Act.put, List.setIfInBounds_toArray, List.set_cons_zero, List.set_cons_succ])
    | ((with_reducible show wpList _ _ _ (⟨_, .store 26 _ _, _, _, _, _⟩ :: _) _ _); refine H.st rfl rB rfl rfl (cells_agg _) (by repeat (first | with_reducible exact Upd.head _ | apply Upd.tail)) (set_bits _ _ _ _) (by rfl) (by exact one_of rfl) (by first | exact ble_le rfl | (change _ + 1 ≤ 12; omega) | (change _ + 1 ≤ 6; omega)) ?_; (intro w H; simp only [Act.put]))
    | (go_at_call 25; ((with_reducible refine (cC _ (HT.out.below H.below)).mono ?_); rintro e w ⟨rfl, hb⟩; replace H := H.call hb; clear hb))
    )
  all_goals (go_ret; exact ⟨rfl, H.below⟩)) : P := h
set_option maxHeartbeats 1600000 in
set_option maxRecDepth 100000 in
theorem addKindless_err (f a : Nat) (w : World) (hT : Tab w) (c : Nat) (cC : ∀ w, Tab w → Calls Tryd.prog 25 #[.int .u8 f, BV a] w fun e w' => e = .returned (.tuple #[.int .u8 (c : Nat), .int .i64 2]) ∧ Below w.heap.size w w') :
    Calls Tryd.prog 36 #[.int .u8 f, BV a] w fun e w' => e = .returned (.bool true) ∧ Below w.heap.size w w' := by
  have H := Own.start w
  have HT := Lib.hid hT
  clear hT
  go_enter Tryd.func36, Tryd.ntmps36
  exact walkLat36
set_option maxHeartbeats 1600000 in
set_option maxRecDepth 100000 in
theorem addKindless_zero (f a : Nat) (w : World) (hT : Tab w) (cC : ∀ w, Tab w → Calls Tryd.prog 25 #[.int .u8 f, BV a] w fun e w' => e = .returned (.tuple #[.int .u8 0, .int .i64 0]) ∧ Below w.heap.size w w') :
    Calls Tryd.prog 36 #[.int .u8 f, BV a] w fun e w' => e = .returned (.bool true) ∧ Below w.heap.size w w' := by
  have H := Own.start w
  have HT := Lib.hid hT
  clear hT
  go_enter Tryd.func36, Tryd.ntmps36
  exact walkLat36
set_option maxHeartbeats 1600000 in
set_option maxRecDepth 100000 in
theorem addKindless_big (f a : Nat) (w : World) (hT : Tab w) (c : Nat) (h0 : ((c : Int) == 0) = false) (hc : decide (7 ≤ (c : Int)) = true) (cC : ∀ w, Tab w → Calls Tryd.prog 25 #[.int .u8 f, BV a] w fun e w' => e = .returned (.tuple #[.int .u8 (c : Nat), .int .i64 0]) ∧ Below w.heap.size w w') :
    Calls Tryd.prog 36 #[.int .u8 f, BV a] w fun e w' => e = .returned (.bool true) ∧ Below w.heap.size w w' := by
  have H := Own.start w
  have HT := Lib.hid hT
  clear hT
  go_enter Tryd.func36, Tryd.ntmps36
  exact walkLat36
set_option maxHeartbeats 1600000 in
set_option maxRecDepth 100000 in
theorem addKindless_fin (f a : Nat) (w : World) (hT : Tab w) (c : Nat) (h0 : ((c : Int) == 0) = false) (hc : decide (7 ≤ (c : Int)) = false) (cC : ∀ w, Tab w → Calls Tryd.prog 25 #[.int .u8 f, BV a] w fun e w' => e = .returned (.tuple #[.int .u8 (c : Nat), .int .i64 0]) ∧ Below w.heap.size w w') :
    Calls Tryd.prog 36 #[.int .u8 f, BV a] w fun e w' => e = .returned (.bool false) ∧ Below w.heap.size w w' := by
  have H := Own.start w
  have HT := Lib.hid hT
  clear hT
  go_enter Tryd.func36, Tryd.ntmps36
  exact walkLat36
def kindlessB (f a : Nat) : Bool := !(fitsB f a) || decide (clsN f a = 0) || decide (7 ≤ clsN f a)
theorem addKindless_any (f a : Nat) (w : World) (hf : f < 256) (ha : a < 2 ^ (64 * 2)) (hT : Tab w) : Calls Tryd.prog 36 #[.int .u8 f, BV a] w fun e w' => e = .returned (.bool (kindlessB f a)) ∧ Below w.heap.size w w' := by
  have cC := fun w hT => kindClass_any f a w hf ha hT
  unfold kindlessB
  cases h : fitsB f a
  · rw [h] at cC
    exact addKindless_err f a w hT 0 cC
  rw [h] at cC
  by_cases h0 : clsN f a = 0
  · rw [decide_eq_true h0]
    simp only [cond_true] at cC
    rw [h0] at cC
    exact addKindless_zero f a w hT cC
  rw [decide_eq_false h0]
  have hb : (((clsN f a : Nat) : Int) == 0) = false := (cast_beq (clsN f a) 0).trans (decide_eq_false h0)
  by_cases h7 : 7 ≤ clsN f a
  · rw [decide_eq_true h7]
    exact addKindless_big f a w hT (clsN f a) hb (by simp; omega) cC
  · rw [decide_eq_false h7]
    exact addKindless_fin f a w hT (clsN f a) hb (by simp; omega) cC
theorem walkLat8 {P : Prop} (h : P := by
  go_wp2_with (first
    | ((with_reducible show wpList _ _ _ (⟨_, .box _ _, _, _, _, _⟩ :: _) _ _); refine H.box rfl rfl (cells_agg _) ?_; (intro g w H; simp only [Act.put, List.setIfInBounds_toArray, List.set_cons_zero, List.set_cons_succ]))
    | ((with_reducible show wpList _ _ _ (⟨_, .alloc 26, _, _, _, _⟩ :: _) _ _); refine H.mk0 rfl rB rfl ?_; (intro g w H; simp only [Act.put, List.setIfInBounds_toArray, List.set_cons_zero, List.set_cons_succ]))
    | ((with_reducible show wpList _ _ _ (⟨_, .load 26 _, _, _, _, _⟩ :: _) _ _); refine H.ld rfl rB rfl rfl (by repeat (first | with_reducible exact List.mem_cons_self | apply List.mem_cons_of_mem)) (by first | with_reducible exact ext_2 _ _) (by rfl) ?_; simp only [Act.put, List.setIfInBounds_toArray, List.set_cons_zero, List.set_cons_succ])
    | ((with_reducible show wpList _ _ _ (⟨_, .store 26 _ _, _, _, _, _⟩ :: _) _ _); refine H.st rfl rB rfl rfl (cells_agg _) (by repeat (first | with_reducible exact Upd.head _ | apply Upd.tail)) (set_bits _ _ _ _) (by rfl) (by exact one_of rfl) (by first | exact ble_le rfl | (change _ + 1 ≤ 12; omega) | (change _ + 1 ≤ 6; omega)) ?_; (intro w H; simp only [Act.put]))
    | ((with_reducible show Code.wp _ (.region 7 _ true) _ _ _); refine H.heldSub rfl (List.Sublist.refl _) ?_; intro H; refine H.takeRun (by repeat (first | with_reducible exact List.Sublist.refl _ | with_reducible apply List.Sublist.cons_cons | with_reducible apply List.Sublist.cons)) 0 rfl (by kernel_rfl) (by kernel_rfl) (by kernel_rfl) (fun _ _ _ _ h => h) rfl (by intro w; go_simp; (try with_reducible rfl)) ?_; (try simp only [Act.put, List.setIfInBounds_toArray, List.set_cons_zero, List.set_cons_succ]); (try simp only [List.getElem_toArray, List.getElem_cons_zero, List.getElem_cons_succ]); refine H.takeRun (by repeat (first | with_reducible exact List.Sublist.refl _ | with_reducible apply List.Sublist.cons_cons | with_reducible apply List.Sublist.cons)) 1 rfl (by kernel_rfl) (by kernel_rfl) (by kernel_rfl) (fun _ _ _ _ h => h) rfl (by intro w; go_simp; (try with_reducible rfl)) ?_; (try simp only [Act.put, List.setIfInBounds_toArray, List.set_cons_zero, List.set_cons_succ]); (try simp only [List.getElem_toArray, List.getElem_cons_zero, List.getElem_cons_succ]); refine H.tk (by repeat (first | with_reducible exact List.Sublist.refl _ | with_reducible apply List.Sublist.cons_cons | with_reducible apply List.Sublist.cons)) 2 rfl (by kernel_rfl) (by kernel_rfl) (by kernel_rfl) (fun _ _ _ _ h => h) rfl rB rfl rfl (by repeat (first | with_reducible exact List.mem_cons_self | apply List.mem_cons_of_mem)) (by first | with_reducible exact ext_2 _ _) (by rfl) ?_; (try simp only [Act.put, List.setIfInBounds_toArray, List.set_cons_zero, List.set_cons_succ]); (try simp only [List.getElem_toArray, List.getElem_cons_zero, List.getElem_cons_succ]); refine H.takeRun (by repeat (first | with_reducible exact List.Sublist.refl _ | with_reducible apply List.Sublist.cons_cons | with_reducible apply List.Sublist.cons)) 3 rfl (by kernel_rfl) (by kernel_rfl) (by kernel_rfl) (fun _ _ _ _ h => h) rfl (by intro w; go_simp; (try with_reducible rfl)) ?_; (try simp only [Act.put, List.setIfInBounds_toArray, List.set_cons_zero, List.set_cons_succ]); (try simp only [List.getElem_toArray, List.getElem_cons_zero, List.getElem_cons_succ]); refine H.takeRun (by repeat (first | with_reducible exact List.Sublist.refl _ | with_reducible apply List.Sublist.cons_cons | with_reducible apply List.Sublist.cons)) 4 rfl (by kernel_rfl) (by kernel_rfl) (by kernel_rfl) (fun _ _ _ _ h => h) rfl (by intro w; go_simp; (try with_reducible rfl)) ?_; (try simp only [Act.put, List.setIfInBounds_toArray, List.set_cons_zero, List.set_cons_succ]); (try simp only [List.getElem_toArray, List.getElem_cons_zero, List.getElem_cons_succ]); refine H.tk (by repeat (first | with_reducible exact List.Sublist.refl _ | with_reducible apply List.Sublist.cons_cons | with_reducible apply List.Sublist.cons)) 5 rfl (by kernel_rfl) (by kernel_rfl) (by kernel_rfl) (fun _ _ _ _ h => h) rfl rB rfl rfl (by repeat (first | with_reducible exact List.mem_cons_self | apply List.mem_cons_of_mem)) (by first | with_reducible exact ext_2 _ _) (by rfl) ?_; (try simp only [Act.put, List.setIfInBounds_toArray, List.set_cons_zero, List.set_cons_succ]); (try simp only [List.getElem_toArray, List.getElem_cons_zero, List.getElem_cons_succ]); refine held_two (i := 6) (k := 13) (by kernel_rfl) rfl rfl rfl rfl ?_ ?_; (unfold Oper.wp; go_simp; (first | (go_at_call 39; ((with_reducible refine (cS _).mono ?_); rintro e w ⟨rfl, hb⟩; replace H := H.call hb; clear hb)) | (go_at_call 38; ((with_reducible refine (cZ _).mono ?_); rintro e w ⟨rfl, hb⟩; replace H := H.call hb; clear hb)) | (go_at_call 35; ((with_reducible refine (cN _ (HT.out.below H.below)).mono ?_); rintro e w ⟨rfl, hb⟩; replace H := H.call hb; clear hb))); refine H.next (by repeat (first | with_reducible exact List.Sublist.refl _ | with_reducible apply List.Sublist.cons_cons | with_reducible apply List.Sublist.cons)) ?_; (try simp only [Act.put, List.setIfInBounds_toArray, List.set_cons_zero, List.set_cons_succ]); (try simp only [List.getElem_toArray, List.getElem_cons_zero, List.getElem_cons_succ]); refine held_two (i := 7) (k := 13) (by kernel_rfl) rfl rfl rfl rfl ?_ ?_; (unfold Oper.wp; go_simp; (first | (go_at_call 39; ((with_reducible refine (cS _).mono ?_); rintro e w ⟨rfl, hb⟩; replace H := H.call hb; clear hb)) | (go_at_call 38; ((with_reducible refine (cZ _).mono ?_); rintro e w ⟨rfl, hb⟩; replace H := H.call hb; clear hb)) | (go_at_call 35; ((with_reducible refine (cN _ (HT.out.below H.below)).mono ?_); rintro e w ⟨rfl, hb⟩; replace H := H.call hb; clear hb))); refine H.next (by repeat (first | with_reducible exact List.Sublist.refl _ | with_reducible apply List.Sublist.cons_cons | with_reducible apply List.Sublist.cons)) ?_; (try simp only [Act.put, List.setIfInBounds_toArray, List.set_cons_zero, List.set_cons_succ]); (try simp only [List.getElem_toArray, List.getElem_cons_zero, List.getElem_cons_succ]); refine held_two (i := 8) (k := 13) (by kernel_rfl) rfl rfl rfl rfl ?_ ?_; (unfold Oper.wp; go_simp; (first | (go_at_call 39; ((with_reducible refine (cS _).mono ?_); rintro e w ⟨rfl, hb⟩; replace H := H.call hb; clear hb)) | (go_at_call 38; ((with_reducible refine (cZ _).mono ?_); rintro e w ⟨rfl, hb⟩; replace H := H.call hb; clear hb)) | (go_at_call 35; ((with_reducible refine (cN _ (HT.out.below H.below)).mono ?_); rintro e w ⟨rfl, hb⟩; replace H := H.call hb; clear hb))); refine H.next (by repeat (first | with_reducible exact List.Sublist.refl _ | with_reducible apply List.Sublist.cons_cons | with_reducible apply List.Sublist.cons)) ?_; (try simp only [Act.put, List.setIfInBounds_toArray, List.set_cons_zero, List.set_cons_succ]); (try simp only [List.getElem_toArray, List.getElem_cons_zero, List.getElem_cons_succ]); refine H.takeRun (by repeat (first | with_reducible exact List.Sublist.refl _ | with_reducible apply List.Sublist.cons_cons | with_reducible apply List.Sublist.cons)) 9 rfl (by kernel_rfl) (by kernel_rfl) (by kernel_rfl) (fun _ _ _ _ h => h) rfl (by intro w; go_simp; (try with_reducible rfl)) ?_; (try simp only [Act.put, List.setIfInBounds_toArray, List.set_cons_zero, List.set_cons_succ]); (try simp only [List.getElem_toArray, List.getElem_cons_zero, List.getElem_cons_succ]); refine H.takeRun (by repeat (first | with_reducible exact List.Sublist.refl _ | with_reducible apply List.Sublist.cons_cons | with_reducible apply List.Sublist.cons)) 10 rfl (by kernel_rfl) (by kernel_rfl) (by kernel_rfl) (fun _ _ _ _ h => h) rfl (by intro w; go_simp; (try with_reducible rfl)) ?_; (try simp only [Act.put, List.setIfInBounds_toArray, List.set_cons_zero, List.set_cons_succ]); (try simp only [List.getElem_toArray, List.getElem_cons_zero, List.getElem_cons_succ]); refine H.takeRun (by repeat (first | with_reducible exact List.Sublist.refl _ | with_reducible apply List.Sublist.cons_cons | with_reducible apply List.Sublist.cons)) 11 rfl (by kernel_rfl) (by kernel_rfl) (by kernel_rfl) (fun _ _ _ _ h => h) rfl (by intro w; go_simp; (try with_reducible rfl)) ?_; (try simp only [Act.put, List.setIfInBounds_toArray, List.set_cons_zero, List.set_cons_succ]); (try simp only [List.getElem_toArray, List.getElem_cons_zero, List.getElem_cons_succ]); refine H.takeRun (by repeat (first | with_reducible exact List.Sublist.refl _ | with_reducible apply List.Sublist.cons_cons | with_reducible apply List.Sublist.cons)) 12 rfl (by kernel_rfl) (by kernel_rfl) (by kernel_rfl) (fun _ _ _ _ h => h) rfl (by intro w; go_simp; (try with_reducible rfl)) ?_; (try simp only [Act.put, List.setIfInBounds_toArray, List.set_cons_zero, List.set_cons_succ]); (try simp only [List.getElem_toArray, List.getElem_cons_zero, List.getElem_cons_succ]); refine held_one (i := 13) (by kernel_rfl) rfl rfl ?_; refine H.oal rB rfl ?_; intro g w H; refine H.next (by repeat (first | with_reducible exact List.Sublist.refl _ | with_reducible apply List.Sublist.cons_cons | with_reducible apply List.Sublist.cons)) ?_; (try simp only [Act.put, List.setIfInBounds_toArray, List.set_cons_zero, List.set_cons_succ]); (try simp only [List.getElem_toArray, List.getElem_cons_zero, List.getElem_cons_succ]); refine held_one (i := 14) (by kernel_rfl) rfl rfl ?_; refine H.ost rB rfl rfl (cells_agg _) (by repeat (first | with_reducible exact Upd.head _ | apply Upd.tail)) (set_bits _ _ _ _) (by rfl) (by exact one_of rfl) (by first | exact ble_le rfl | (change _ + 1 ≤ 12; omega) | (change _ + 1 ≤ 6; omega)) ?_; intro w H; refine H.next (by repeat (first | with_reducible exact List.Sublist.refl _ | with_reducible apply List.Sublist.cons_cons | with_reducible apply List.Sublist.cons)) ?_; (try simp only [Act.put]); refine H.takeRun (by repeat (first | with_reducible exact List.Sublist.refl _ | with_reducible apply List.Sublist.cons_cons | with_reducible apply List.Sublist.cons)) 15 rfl (by kernel_rfl) (by kernel_rfl) (by kernel_rfl) (fun _ _ _ _ h => h) rfl (by intro w; go_simp; (try with_reducible rfl)) ?_; (try simp only [Act.put, List.setIfInBounds_toArray, List.set_cons_zero, List.set_cons_succ]); (try simp only [List.getElem_toArray, List.getElem_cons_zero, List.getElem_cons_succ]); refine H.takeRun (by repeat (first | with_reducible exact List.Sublist.refl _ | with_reducible apply List.Sublist.cons_cons | with_reducible apply List.Sublist.cons)) 16 rfl (by kernel_rfl) (by kernel_rfl) (by kernel_rfl) (fun _ _ _ _ h => h) rfl (by intro w; go_simp; (try with_reducible rfl)) ?_; (try simp only [Act.put, List.setIfInBounds_toArray, List.set_cons_zero, List.set_cons_succ]); (try simp only [List.getElem_toArray, List.getElem_cons_zero, List.getElem_cons_succ]); refine wpAnyH_done (by kernel_rfl) ?_ _); rotate_left; (refine H.oal rB rfl ?_; intro g w H; refine H.next (by repeat (first | with_reducible exact List.Sublist.refl _ | with_reducible apply List.Sublist.cons_cons | with_reducible apply List.Sublist.cons)) ?_; (try simp only [Act.put, List.setIfInBounds_toArray, List.set_cons_zero, List.set_cons_succ]); (try simp only [List.getElem_toArray, List.getElem_cons_zero, List.getElem_cons_succ]); refine held_one (i := 8) (by kernel_rfl) rfl rfl ?_; unfold Oper.wp; go_simp; (first | (go_at_call 39; ((with_reducible refine (cS _).mono ?_); rintro e w ⟨rfl, hb⟩; replace H := H.call hb; clear hb)) | (go_at_call 38; ((with_reducible refine (cZ _).mono ?_); rintro e w ⟨rfl, hb⟩; replace H := H.call hb; clear hb)) | (go_at_call 35; ((with_reducible refine (cN _ (HT.out.below H.below)).mono ?_); rintro e w ⟨rfl, hb⟩; replace H := H.call hb; clear hb))); refine H.next (by repeat (first | with_reducible exact List.Sublist.refl _ | with_reducible apply List.Sublist.cons_cons | with_reducible apply List.Sublist.cons)) ?_; (try simp only [Act.put, List.setIfInBounds_toArray, List.set_cons_zero, List.set_cons_succ]); (try simp only [List.getElem_toArray, List.getElem_cons_zero, List.getElem_cons_succ]); refine H.takeRun (by repeat (first | with_reducible exact List.Sublist.refl _ | with_reducible apply List.Sublist.cons_cons | with_reducible apply List.Sublist.cons)) 9 rfl (by kernel_rfl) (by kernel_rfl) (by kernel_rfl) (fun _ _ _ _ h => h) rfl (by intro w; go_simp; (try with_reducible rfl)) ?_; (try simp only [Act.put, List.setIfInBounds_toArray, List.set_cons_zero, List.set_cons_succ]); (try simp only [List.getElem_toArray, List.getElem_cons_zero, List.getElem_cons_succ]); refine H.takeRun (by repeat (first | with_reducible exact List.Sublist.refl _ | with_reducible apply List.Sublist.cons_cons | with_reducible apply List.Sublist.cons)) 10 rfl (by kernel_rfl) (by kernel_rfl) (by kernel_rfl) (fun _ _ _ _ h => h) rfl (by intro w; go_simp; (try with_reducible rfl)) ?_; (try simp only [Act.put, List.setIfInBounds_toArray, List.set_cons_zero, List.set_cons_succ]); (try simp only [List.getElem_toArray, List.getElem_cons_zero, List.getElem_cons_succ]); refine H.takeRun (by repeat (first | with_reducible exact List.Sublist.refl _ | with_reducible apply List.Sublist.cons_cons | with_reducible apply List.Sublist.cons)) 11 rfl (by kernel_rfl) (by kernel_rfl) (by kernel_rfl) (fun _ _ _ _ h => h) rfl (by intro w; go_simp; (try with_reducible rfl)) ?_; (try simp only [Act.put, List.setIfInBounds_toArray, List.set_cons_zero, List.set_cons_succ]); (try simp only [List.getElem_toArray, List.getElem_cons_zero, List.getElem_cons_succ]); refine H.takeRun (by repeat (first | with_reducible exact List.Sublist.refl _ | with_reducible apply List.Sublist.cons_cons | with_reducible apply List.Sublist.cons)) 12 rfl (by kernel_rfl) (by kernel_rfl) (by kernel_rfl) (fun _ _ _ _ h => h) rfl (by intro w; go_simp; (try with_reducible rfl)) ?_; (try simp only [Act.put, List.setIfInBounds_toArray, List.set_cons_zero, List.set_cons_succ]); (try simp only [List.getElem_toArray, List.getElem_cons_zero, List.getElem_cons_succ]); refine held_one (i := 14) (by kernel_rfl) rfl rfl ?_; refine H.ost rB rfl rfl (cells_agg _) (by repeat (first | with_reducible exact Upd.head _ | apply Upd.tail)) (set_bits _ _ _ _) (by rfl) (by exact one_of rfl) (by first | exact ble_le rfl | (change _ + 1 ≤ 12; omega) | (change _ + 1 ≤ 6; omega)) ?_; intro w H; refine H.next (by repeat (first | with_reducible exact List.Sublist.refl _ | with_reducible apply List.Sublist.cons_cons | with_reducible apply List.Sublist.cons)) ?_; (try simp only [Act.put]); refine H.takeRun (by repeat (first | with_reducible exact List.Sublist.refl _ | with_reducible apply List.Sublist.cons_cons | with_reducible apply List.Sublist.cons)) 15 rfl (by kernel_rfl) (by kernel_rfl) (by kernel_rfl) (fun _ _ _ _ h => h) rfl (by intro w; go_simp; (try with_reducible rfl)) ?_; (try simp only [Act.put, List.setIfInBounds_toArray, List.set_cons_zero, List.set_cons_succ]); (try simp only [List.getElem_toArray, List.getElem_cons_zero, List.getElem_cons_succ]); refine H.takeRun (by repeat (first | with_reducible exact List.Sublist.refl _ | with_reducible apply List.Sublist.cons_cons | with_reducible apply List.Sublist.cons)) 16 rfl (by kernel_rfl) (by kernel_rfl) (by kernel_rfl) (fun _ _ _ _ h => h) rfl (by intro w; go_simp; (try with_reducible rfl)) ?_; (try simp only [Act.put, List.setIfInBounds_toArray, List.set_cons_zero, List.set_cons_succ]); (try simp only [List.getElem_toArray, List.getElem_cons_zero, List.getElem_cons_succ]); refine wpAnyH_done (by kernel_rfl) ?_ _)); rotate_left; (refine H.oal rB rfl ?_; intro g w H; refine H.next (by repeat (first | with_reducible exact List.Sublist.refl _ | with_reducible apply List.Sublist.cons_cons | with_reducible apply List.Sublist.cons)) ?_; (try simp only [Act.put, List.setIfInBounds_toArray, List.set_cons_zero, List.set_cons_succ]); (try simp only [List.getElem_toArray, List.getElem_cons_zero, List.getElem_cons_succ]); refine held_one (i := 7) (by kernel_rfl) rfl rfl ?_; unfold Oper.wp; go_simp; (first | (go_at_call 39; ((with_reducible refine (cS _).mono ?_); rintro e w ⟨rfl, hb⟩; replace H := H.call hb; clear hb)) | (go_at_call 38; ((with_reducible refine (cZ _).mono ?_); rintro e w ⟨rfl, hb⟩; replace H := H.call hb; clear hb)) | (go_at_call 35; ((with_reducible refine (cN _ (HT.out.below H.below)).mono ?_); rintro e w ⟨rfl, hb⟩; replace H := H.call hb; clear hb))); refine H.next (by repeat (first | with_reducible exact List.Sublist.refl _ | with_reducible apply List.Sublist.cons_cons | with_reducible apply List.Sublist.cons)) ?_; (try simp only [Act.put, List.setIfInBounds_toArray, List.set_cons_zero, List.set_cons_succ]); (try simp only [List.getElem_toArray, List.getElem_cons_zero, List.getElem_cons_succ]); refine held_one (i := 8) (by kernel_rfl) rfl rfl ?_; unfold Oper.wp; go_simp; (first | (go_at_call 39; ((with_reducible refine (cS _).mono ?_); rintro e w ⟨rfl, hb⟩; replace H := H.call hb; clear hb)) | (go_at_call 38; ((with_reducible refine (cZ _).mono ?_); rintro e w ⟨rfl, hb⟩; replace H := H.call hb; clear hb)) | (go_at_call 35; ((with_reducible refine (cN _ (HT.out.below H.below)).mono ?_); rintro e w ⟨rfl, hb⟩; replace H := H.call hb; clear hb))); refine H.next (by repeat (first | with_reducible exact List.Sublist.refl _ | with_reducible apply List.Sublist.cons_cons | with_reducible apply List.Sublist.cons)) ?_; (try simp only [Act.put, List.setIfInBounds_toArray, List.set_cons_zero, List.set_cons_succ]); (try simp only [List.getElem_toArray, List.getElem_cons_zero, List.getElem_cons_succ]); refine H.takeRun (by repeat (first | with_reducible exact List.Sublist.refl _ | with_reducible apply List.Sublist.cons_cons | with_reducible apply List.Sublist.cons)) 9 rfl (by kernel_rfl) (by kernel_rfl) (by kernel_rfl) (fun _ _ _ _ h => h) rfl (by intro w; go_simp; (try with_reducible rfl)) ?_; (try simp only [Act.put, List.setIfInBounds_toArray, List.set_cons_zero, List.set_cons_succ]); (try simp only [List.getElem_toArray, List.getElem_cons_zero, List.getElem_cons_succ]); refine H.takeRun (by repeat (first | with_reducible exact List.Sublist.refl _ | with_reducible apply List.Sublist.cons_cons | with_reducible apply List.Sublist.cons)) 10 rfl (by kernel_rfl) (by kernel_rfl) (by kernel_rfl) (fun _ _ _ _ h => h) rfl (by intro w; go_simp; (try with_reducible rfl)) ?_; (try simp only [Act.put, List.setIfInBounds_toArray, List.set_cons_zero, List.set_cons_succ]); (try simp only [List.getElem_toArray, List.getElem_cons_zero, List.getElem_cons_succ]); refine H.takeRun (by repeat (first | with_reducible exact List.Sublist.refl _ | with_reducible apply List.Sublist.cons_cons | with_reducible apply List.Sublist.cons)) 11 rfl (by kernel_rfl) (by kernel_rfl) (by kernel_rfl) (fun _ _ _ _ h => h) rfl (by intro w; go_simp; (try with_reducible rfl)) ?_; (try simp only [Act.put, List.setIfInBounds_toArray, List.set_cons_zero, List.set_cons_succ]); (try simp only [List.getElem_toArray, List.getElem_cons_zero, List.getElem_cons_succ]); refine H.takeRun (by repeat (first | with_reducible exact List.Sublist.refl _ | with_reducible apply List.Sublist.cons_cons | with_reducible apply List.Sublist.cons)) 12 rfl (by kernel_rfl) (by kernel_rfl) (by kernel_rfl) (fun _ _ _ _ h => h) rfl (by intro w; go_simp; (try with_reducible rfl)) ?_; (try simp only [Act.put, List.setIfInBounds_toArray, List.set_cons_zero, List.set_cons_succ]); (try simp only [List.getElem_toArray, List.getElem_cons_zero, List.getElem_cons_succ]); refine held_one (i := 14) (by kernel_rfl) rfl rfl ?_; refine H.ost rB rfl rfl (cells_agg _) (by repeat (first | with_reducible exact Upd.head _ | apply Upd.tail)) (set_bits _ _ _ _) (by rfl) (by exact one_of rfl) (by first | exact ble_le rfl | (change _ + 1 ≤ 12; omega) | (change _ + 1 ≤ 6; omega)) ?_; intro w H; refine H.next (by repeat (first | with_reducible exact List.Sublist.refl _ | with_reducible apply List.Sublist.cons_cons | with_reducible apply List.Sublist.cons)) ?_; (try simp only [Act.put]); refine H.takeRun (by repeat (first | with_reducible exact List.Sublist.refl _ | with_reducible apply List.Sublist.cons_cons | with_reducible apply List.Sublist.cons)) 15 rfl (by kernel_rfl) (by kernel_rfl) (by kernel_rfl) (fun _ _ _ _ h => h) rfl (by intro w; go_simp; (try with_reducible rfl)) ?_; (try simp only [Act.put, List.setIfInBounds_toArray, List.set_cons_zero, List.set_cons_succ]); (try simp only [List.getElem_toArray, List.getElem_cons_zero, List.getElem_cons_succ]); refine H.takeRun (by repeat (first | with_reducible exact List.Sublist.refl _ | with_reducible apply List.Sublist.cons_cons | with_reducible apply List.Sublist.cons)) 16 rfl (by kernel_rfl) (by kernel_rfl) (by kernel_rfl) (fun _ _ _ _ h => h) rfl (by intro w; go_simp; (try with_reducible rfl)) ?_; (try simp only [Act.put, List.setIfInBounds_toArray, List.set_cons_zero, List.set_cons_succ]); (try simp only [List.getElem_toArray, List.getElem_cons_zero, List.getElem_cons_succ]); refine wpAnyH_done (by kernel_rfl) ?_ _)); rotate_left; (refine H.oal rB rfl ?_; intro g w H; refine H.next (by repeat (first | with_reducible exact List.Sublist.refl _ | with_reducible apply List.Sublist.cons_cons | with_reducible apply List.Sublist.cons)) ?_; (try simp only [Act.put, List.setIfInBounds_toArray, List.set_cons_zero, List.set_cons_succ]); (try simp only [List.getElem_toArray, List.getElem_cons_zero, List.getElem_cons_succ]); refine held_one (i := 6) (by kernel_rfl) rfl rfl ?_; unfold Oper.wp; go_simp; (first | (go_at_call 39; ((with_reducible refine (cS _).mono ?_); rintro e w ⟨rfl, hb⟩; replace H := H.call hb; clear hb)) | (go_at_call 38; ((with_reducible refine (cZ _).mono ?_); rintro e w ⟨rfl, hb⟩; replace H := H.call hb; clear hb)) | (go_at_call 35; ((with_reducible refine (cN _ (HT.out.below H.below)).mono ?_); rintro e w ⟨rfl, hb⟩; replace H := H.call hb; clear hb))); refine H.next (by repeat (first | with_reducible exact List.Sublist.refl _ | with_reducible apply List.Sublist.cons_cons | with_reducible apply List.Sublist.cons)) ?_; (try simp only [Act.put, List.setIfInBounds_toArray, List.set_cons_zero, List.set_cons_succ]); (try simp only [List.getElem_toArray, List.getElem_cons_zero, List.getElem_cons_succ]); refine held_one (i := 7) (by kernel_rfl) rfl rfl ?_; unfold Oper.wp; go_simp; (first | (go_at_call 39; ((with_reducible refine (cS _).mono ?_); rintro e w ⟨rfl, hb⟩; replace H := H.call hb; clear hb)) | (go_at_call 38; ((with_reducible refine (cZ _).mono ?_); rintro e w ⟨rfl, hb⟩; replace H := H.call hb; clear hb)) | (go_at_call 35; ((with_reducible refine (cN _ (HT.out.below H.below)).mono ?_); rintro e w ⟨rfl, hb⟩; replace H := H.call hb; clear hb))); refine H.next (by repeat (first | with_reducible exact List.Sublist.refl _ | with_reducible apply List.Sublist.cons_cons | with_reducible apply List.Sublist.cons)) ?_; (try simp only [Act.put, List.setIfInBounds_toArray, List.set_cons_zero, List.set_cons_succ]); (try simp only [List.getElem_toArray, List.getElem_cons_zero, List.getElem_cons_succ]); refine held_one (i := 8) (by kernel_rfl) rfl rfl ?_; unfold Oper.wp; go_simp; (first | (go_at_call 39; ((with_reducible refine (cS _).mono ?_); rintro e w ⟨rfl, hb⟩; replace H := H.call hb; clear hb)) | (go_at_call 38; ((with_reducible refine (cZ _).mono ?_); rintro e w ⟨rfl, hb⟩; replace H := H.call hb; clear hb)) | (go_at_call 35; ((with_reducible refine (cN _ (HT.out.below H.below)).mono ?_); rintro e w ⟨rfl, hb⟩; replace H := H.call hb; clear hb))); refine H.next (by repeat (first | with_reducible exact List.Sublist.refl _ | with_reducible apply List.Sublist.cons_cons | with_reducible apply List.Sublist.cons)) ?_; (try simp only [Act.put, List.setIfInBounds_toArray, List.set_cons_zero, List.set_cons_succ]); (try simp only [List.getElem_toArray, List.getElem_cons_zero, List.getElem_cons_succ]); refine H.takeRun (by repeat (first | with_reducible exact List.Sublist.refl _ | with_reducible apply List.Sublist.cons_cons | with_reducible apply List.Sublist.cons)) 9 rfl (by kernel_rfl) (by kernel_rfl) (by kernel_rfl) (fun _ _ _ _ h => h) rfl (by intro w; go_simp; (try with_reducible rfl)) ?_; (try simp only [Act.put, List.setIfInBounds_toArray, List.set_cons_zero, List.set_cons_succ]); (try simp only [List.getElem_toArray, List.getElem_cons_zero, List.getElem_cons_succ]); refine H.takeRun (by repeat (first | with_reducible exact List.Sublist.refl _ | with_reducible apply List.Sublist.cons_cons | with_reducible apply List.Sublist.cons)) 10 rfl (by kernel_rfl) (by kernel_rfl) (by kernel_rfl) (fun _ _ _ _ h => h) rfl (by intro w; go_simp; (try with_reducible rfl)) ?_; (try simp only [Act.put, List.setIfInBounds_toArray, List.set_cons_zero, List.set_cons_succ]); (try simp only [List.getElem_toArray, List.getElem_cons_zero, List.getElem_cons_succ]); refine H.takeRun (by repeat (first | with_reducible exact List.Sublist.refl _ | with_reducible apply List.Sublist.cons_cons | with_reducible apply List.Sublist.cons)) 11 rfl (by kernel_rfl) (by kernel_rfl) (by kernel_rfl) (fun _ _ _ _ h => h) rfl (by intro w; go_simp; (try with_reducible rfl)) ?_; (try simp only [Act.put, List.setIfInBounds_toArray, List.set_cons_zero, List.set_cons_succ]); (try simp only [List.getElem_toArray, List.getElem_cons_zero, List.getElem_cons_succ]); refine H.takeRun (by repeat (first | with_reducible exact List.Sublist.refl _ | with_reducible apply List.Sublist.cons_cons | with_reducible apply List.Sublist.cons)) 12 rfl (by kernel_rfl) (by kernel_rfl) (by kernel_rfl) (fun _ _ _ _ h => h) rfl (by intro w; go_simp; (try with_reducible rfl)) ?_; (try simp only [Act.put, List.setIfInBounds_toArray, List.set_cons_zero, List.set_cons_succ]); (try simp only [List.getElem_toArray, List.getElem_cons_zero, List.getElem_cons_succ]); refine held_one (i := 14) (by kernel_rfl) rfl rfl ?_; refine H.ost rB rfl rfl (cells_agg _) (by repeat (first | with_reducible exact Upd.head _ | apply Upd.tail)) (set_bits _ _ _ _) (by rfl) (by exact one_of rfl) (by first | exact ble_le rfl | (change _ + 1 ≤ 12; omega) | (change _ + 1 ≤ 6; omega)) ?_; intro w H; refine H.next (by repeat (first | with_reducible exact List.Sublist.refl _ | with_reducible apply List.Sublist.cons_cons | with_reducible apply List.Sublist.cons)) ?_; (try simp only [Act.put]); refine H.takeRun (by repeat (first | with_reducible exact List.Sublist.refl _ | with_reducible apply List.Sublist.cons_cons | with_reducible apply List.Sublist.cons)) 15 rfl (by kernel_rfl) (by kernel_rfl) (by kernel_rfl) (fun _ _ _ _ h => h) rfl (by intro w; go_simp; (try with_reducible rfl)) ?_; (try simp only [Act.put, List.setIfInBounds_toArray, List.set_cons_zero, List.set_cons_succ]); (try simp only [List.getElem_toArray, List.getElem_cons_zero, List.getElem_cons_succ]); refine H.takeRun (by repeat (first | with_reducible exact List.Sublist.refl _ | with_reducible apply List.Sublist.cons_cons | with_reducible apply List.Sublist.cons)) 16 rfl (by kernel_rfl) (by kernel_rfl) (by kernel_rfl) (fun _ _ _ _ h => h) rfl (by intro w; go_simp; (try with_reducible rfl)) ?_; (try simp only [Act.put, List.setIfInBounds_toArray, List.set_cons_zero, List.set_cons_succ]); (try simp only [List.getElem_toArray, List.getElem_cons_zero, List.getElem_cons_succ]); refine wpAnyH_done (by kernel_rfl) ?_ _))
    | (go_at_call 35; ((with_reducible refine (cA _ (HT.out.below H.below)).mono ?_); rintro e w ⟨rfl, hb⟩; replace H := H.call hb; clear hb))
    | (go_at_call 35; ((with_reducible refine (cB _ (HT.out.below H.below)).mono ?_); rintro e w ⟨rfl, hb⟩; replace H := H.call hb; clear hb))
    | (go_at_call 37; ((with_reducible refine (addAlive_any _ (HT.out.below H.below)).mono ?_); rintro e w ⟨rfl, hb⟩; replace H := H.call hb; clear hb))
    | (go_at_call 36; ((with_reducible refine (cK _ (HT.out.below H.below)).mono ?_); rintro e w ⟨rfl, hb⟩; replace H := H.call hb; clear hb))
    )
  all_goals (go_ret; exact ⟨rfl, H.below⟩)) : P := h
set_option maxHeartbeats 1600000 in
set_option maxRecDepth 100000 in
theorem addTurned_bad (f m a b x : Nat) (w : World) (hT : Tab w) (cA : ∀ w, Tab w → Calls Tryd.prog 35 #[.int .u8 f, .int .u8 m, BV a, BV b] w fun e w' => e = .returned (.tuple #[BV x, .int .u8 0, .int .i64 2]) ∧ Below w.heap.size w w') (cB : ∀ w, Tab w → Calls Tryd.prog 35 #[.int .u8 f, .int .u8 m, BV b, BV a] w fun e w' => e = .returned (.tuple #[BV x, .int .u8 0, .int .i64 2]) ∧ Below w.heap.size w w')  :
    Calls Tryd.prog 8 #[.int .u8 f, .int .u8 m, BV a, BV b] w fun e w' => e = .returned (.bool true) ∧ Below w.heap.size w w' := by
  have H := Own.start w
  have HT := Lib.hid hT
  clear hT
  go_enter Tryd.func8, Tryd.ntmps8
  exact walkLat8
set_option maxHeartbeats 1600000 in
set_option maxRecDepth 100000 in
theorem addTurned_less0 (f m a b x : Nat) (w : World) (hT : Tab w) (cA : ∀ w, Tab w → Calls Tryd.prog 35 #[.int .u8 f, .int .u8 m, BV a, BV b] w fun e w' => e = .returned (.tuple #[BV x, .int .u8 0, .int .i64 0]) ∧ Below w.heap.size w w') (cB : ∀ w, Tab w → Calls Tryd.prog 35 #[.int .u8 f, .int .u8 m, BV b, BV a] w fun e w' => e = .returned (.tuple #[BV x, .int .u8 0, .int .i64 0]) ∧ Below w.heap.size w w') (cK : ∀ w, Tab w → Calls Tryd.prog 36 #[.int .u8 f, BV a] w fun e w' => e = .returned (.bool true) ∧ Below w.heap.size w w')  :
    Calls Tryd.prog 8 #[.int .u8 f, .int .u8 m, BV a, BV b] w fun e w' => e = .returned (.bool true) ∧ Below w.heap.size w w' := by
  have H := Own.start w
  have HT := Lib.hid hT
  clear hT
  go_enter Tryd.func8, Tryd.ntmps8
  exact walkLat8
set_option maxHeartbeats 1600000 in
set_option maxRecDepth 100000 in
theorem addTurned_less1 (f m a b x : Nat) (w : World) (hT : Tab w) (cA : ∀ w, Tab w → Calls Tryd.prog 35 #[.int .u8 f, .int .u8 m, BV a, BV b] w fun e w' => e = .returned (.tuple #[BV x, .int .u8 1, .int .i64 0]) ∧ Below w.heap.size w w') (cB : ∀ w, Tab w → Calls Tryd.prog 35 #[.int .u8 f, .int .u8 m, BV b, BV a] w fun e w' => e = .returned (.tuple #[BV x, .int .u8 1, .int .i64 0]) ∧ Below w.heap.size w w') (cK : ∀ w, Tab w → Calls Tryd.prog 36 #[.int .u8 f, BV a] w fun e w' => e = .returned (.bool true) ∧ Below w.heap.size w w')  :
    Calls Tryd.prog 8 #[.int .u8 f, .int .u8 m, BV a, BV b] w fun e w' => e = .returned (.bool true) ∧ Below w.heap.size w w' := by
  have H := Own.start w
  have HT := Lib.hid hT
  clear hT
  go_enter Tryd.func8, Tryd.ntmps8
  exact walkLat8
set_option maxHeartbeats 1600000 in
set_option maxRecDepth 100000 in
theorem addTurned_less5 (f m a b x : Nat) (w : World) (hT : Tab w) (cA : ∀ w, Tab w → Calls Tryd.prog 35 #[.int .u8 f, .int .u8 m, BV a, BV b] w fun e w' => e = .returned (.tuple #[BV x, .int .u8 5, .int .i64 0]) ∧ Below w.heap.size w w') (cB : ∀ w, Tab w → Calls Tryd.prog 35 #[.int .u8 f, .int .u8 m, BV b, BV a] w fun e w' => e = .returned (.tuple #[BV x, .int .u8 5, .int .i64 0]) ∧ Below w.heap.size w w') (cK : ∀ w, Tab w → Calls Tryd.prog 36 #[.int .u8 f, BV a] w fun e w' => e = .returned (.bool true) ∧ Below w.heap.size w w')  :
    Calls Tryd.prog 8 #[.int .u8 f, .int .u8 m, BV a, BV b] w fun e w' => e = .returned (.bool true) ∧ Below w.heap.size w w' := by
  have H := Own.start w
  have HT := Lib.hid hT
  clear hT
  go_enter Tryd.func8, Tryd.ntmps8
  exact walkLat8
set_option maxHeartbeats 1600000 in
set_option maxRecDepth 100000 in
theorem addTurned_less16 (f m a b x : Nat) (w : World) (hT : Tab w) (cA : ∀ w, Tab w → Calls Tryd.prog 35 #[.int .u8 f, .int .u8 m, BV a, BV b] w fun e w' => e = .returned (.tuple #[BV x, .int .u8 16, .int .i64 0]) ∧ Below w.heap.size w w') (cB : ∀ w, Tab w → Calls Tryd.prog 35 #[.int .u8 f, .int .u8 m, BV b, BV a] w fun e w' => e = .returned (.tuple #[BV x, .int .u8 16, .int .i64 0]) ∧ Below w.heap.size w w') (cK : ∀ w, Tab w → Calls Tryd.prog 36 #[.int .u8 f, BV a] w fun e w' => e = .returned (.bool true) ∧ Below w.heap.size w w')  :
    Calls Tryd.prog 8 #[.int .u8 f, .int .u8 m, BV a, BV b] w fun e w' => e = .returned (.bool true) ∧ Below w.heap.size w w' := by
  have H := Own.start w
  have HT := Lib.hid hT
  clear hT
  go_enter Tryd.func8, Tryd.ntmps8
  exact walkLat8
set_option maxHeartbeats 1600000 in
set_option maxRecDepth 100000 in
theorem addTurned_good0 (f m a b x z : Nat) (w : World) (hT : Tab w) (q : Bool) (cA : ∀ w, Tab w → Calls Tryd.prog 35 #[.int .u8 f, .int .u8 m, BV a, BV b] w fun e w' => e = .returned (.tuple #[BV x, .int .u8 0, .int .i64 0]) ∧ Below w.heap.size w w') (cB : ∀ w, Tab w → Calls Tryd.prog 35 #[.int .u8 f, .int .u8 m, BV b, BV a] w fun e w' => e = .returned (.tuple #[BV x, .int .u8 0, .int .i64 0]) ∧ Below w.heap.size w w') (cK : ∀ w, Tab w → Calls Tryd.prog 36 #[.int .u8 f, BV a] w fun e w' => e = .returned (.bool false) ∧ Below w.heap.size w w') (cS : ∀ w, Calls Tryd.prog 39 #[.int .u8 f, BV a] w fun e w' => e = .returned (.bool q) ∧ Below w.heap.size w w') (cZ : ∀ w, Calls Tryd.prog 38 #[.int .u8 f, .bool q] w fun e w' => e = .returned (BV z) ∧ Below w.heap.size w w') (cN : ∀ w, Tab w → Calls Tryd.prog 35 #[.int .u8 f, .int .u8 m, BV a, BV z] w fun e w' => e = .returned (.tuple #[BV a, .int .u8 0, .int .i64 0]) ∧ Below w.heap.size w w') :
    Calls Tryd.prog 8 #[.int .u8 f, .int .u8 m, BV a, BV b] w fun e w' => e = .returned (.bool true) ∧ Below w.heap.size w w' := by
  have H := Own.start w
  have HT := Lib.hid hT
  clear hT
  go_enter Tryd.func8, Tryd.ntmps8
  exact walkLat8
set_option maxHeartbeats 1600000 in
set_option maxRecDepth 100000 in
theorem addTurned_good1 (f m a b x z : Nat) (w : World) (hT : Tab w) (q : Bool) (cA : ∀ w, Tab w → Calls Tryd.prog 35 #[.int .u8 f, .int .u8 m, BV a, BV b] w fun e w' => e = .returned (.tuple #[BV x, .int .u8 1, .int .i64 0]) ∧ Below w.heap.size w w') (cB : ∀ w, Tab w → Calls Tryd.prog 35 #[.int .u8 f, .int .u8 m, BV b, BV a] w fun e w' => e = .returned (.tuple #[BV x, .int .u8 1, .int .i64 0]) ∧ Below w.heap.size w w') (cK : ∀ w, Tab w → Calls Tryd.prog 36 #[.int .u8 f, BV a] w fun e w' => e = .returned (.bool false) ∧ Below w.heap.size w w') (cS : ∀ w, Calls Tryd.prog 39 #[.int .u8 f, BV a] w fun e w' => e = .returned (.bool q) ∧ Below w.heap.size w w') (cZ : ∀ w, Calls Tryd.prog 38 #[.int .u8 f, .bool q] w fun e w' => e = .returned (BV z) ∧ Below w.heap.size w w') (cN : ∀ w, Tab w → Calls Tryd.prog 35 #[.int .u8 f, .int .u8 m, BV a, BV z] w fun e w' => e = .returned (.tuple #[BV a, .int .u8 0, .int .i64 0]) ∧ Below w.heap.size w w') :
    Calls Tryd.prog 8 #[.int .u8 f, .int .u8 m, BV a, BV b] w fun e w' => e = .returned (.bool true) ∧ Below w.heap.size w w' := by
  have H := Own.start w
  have HT := Lib.hid hT
  clear hT
  go_enter Tryd.func8, Tryd.ntmps8
  exact walkLat8
set_option maxHeartbeats 1600000 in
set_option maxRecDepth 100000 in
theorem addTurned_good5 (f m a b x z : Nat) (w : World) (hT : Tab w) (q : Bool) (cA : ∀ w, Tab w → Calls Tryd.prog 35 #[.int .u8 f, .int .u8 m, BV a, BV b] w fun e w' => e = .returned (.tuple #[BV x, .int .u8 5, .int .i64 0]) ∧ Below w.heap.size w w') (cB : ∀ w, Tab w → Calls Tryd.prog 35 #[.int .u8 f, .int .u8 m, BV b, BV a] w fun e w' => e = .returned (.tuple #[BV x, .int .u8 5, .int .i64 0]) ∧ Below w.heap.size w w') (cK : ∀ w, Tab w → Calls Tryd.prog 36 #[.int .u8 f, BV a] w fun e w' => e = .returned (.bool false) ∧ Below w.heap.size w w') (cS : ∀ w, Calls Tryd.prog 39 #[.int .u8 f, BV a] w fun e w' => e = .returned (.bool q) ∧ Below w.heap.size w w') (cZ : ∀ w, Calls Tryd.prog 38 #[.int .u8 f, .bool q] w fun e w' => e = .returned (BV z) ∧ Below w.heap.size w w') (cN : ∀ w, Tab w → Calls Tryd.prog 35 #[.int .u8 f, .int .u8 m, BV a, BV z] w fun e w' => e = .returned (.tuple #[BV a, .int .u8 0, .int .i64 0]) ∧ Below w.heap.size w w') :
    Calls Tryd.prog 8 #[.int .u8 f, .int .u8 m, BV a, BV b] w fun e w' => e = .returned (.bool true) ∧ Below w.heap.size w w' := by
  have H := Own.start w
  have HT := Lib.hid hT
  clear hT
  go_enter Tryd.func8, Tryd.ntmps8
  exact walkLat8
set_option maxHeartbeats 1600000 in
set_option maxRecDepth 100000 in
theorem addTurned_good16 (f m a b x z : Nat) (w : World) (hT : Tab w) (q : Bool) (cA : ∀ w, Tab w → Calls Tryd.prog 35 #[.int .u8 f, .int .u8 m, BV a, BV b] w fun e w' => e = .returned (.tuple #[BV x, .int .u8 16, .int .i64 0]) ∧ Below w.heap.size w w') (cB : ∀ w, Tab w → Calls Tryd.prog 35 #[.int .u8 f, .int .u8 m, BV b, BV a] w fun e w' => e = .returned (.tuple #[BV x, .int .u8 16, .int .i64 0]) ∧ Below w.heap.size w w') (cK : ∀ w, Tab w → Calls Tryd.prog 36 #[.int .u8 f, BV a] w fun e w' => e = .returned (.bool false) ∧ Below w.heap.size w w') (cS : ∀ w, Calls Tryd.prog 39 #[.int .u8 f, BV a] w fun e w' => e = .returned (.bool q) ∧ Below w.heap.size w w') (cZ : ∀ w, Calls Tryd.prog 38 #[.int .u8 f, .bool q] w fun e w' => e = .returned (BV z) ∧ Below w.heap.size w w') (cN : ∀ w, Tab w → Calls Tryd.prog 35 #[.int .u8 f, .int .u8 m, BV a, BV z] w fun e w' => e = .returned (.tuple #[BV a, .int .u8 0, .int .i64 0]) ∧ Below w.heap.size w w') :
    Calls Tryd.prog 8 #[.int .u8 f, .int .u8 m, BV a, BV b] w fun e w' => e = .returned (.bool true) ∧ Below w.heap.size w w' := by
  have H := Own.start w
  have HT := Lib.hid hT
  clear hT
  go_enter Tryd.func8, Tryd.ntmps8
  exact walkLat8
theorem kindless_not (f a : Nat) (h : kindlessB f a = false) : fitsB f a = true ∧ (Fin0 f a ∨ clsN f a = 3 ∨ clsN f a = 4) := by
  unfold kindlessB at h
  simp only [Bool.or_eq_false_iff, Bool.not_eq_false', decide_eq_false_iff_not] at h
  obtain ⟨⟨h1, h2⟩, h3⟩ := h
  refine ⟨h1, ?_⟩
  rcases cls_sort f a with c | c | c | c
  · omega
  · omega
  · exact Or.inr c
  · exact Or.inl c
theorem addR_flags (f m a b : Nat) (hok : binOk f m a b = true) : (addR f m a b).2 = 0 ∨ (addR f m a b).2 = 1 ∨ (addR f m a b).2 = 5 ∨ (addR f m a b).2 = 16 := by
  have h3 := ((add_turned f m a b).2 hok).1
  have key : (addR f m a b).2 = 0 ∨ (addR f m a b).2 = 1 ∨ (addR f m a b).2 = 3 ∨ (addR f m a b).2 = 5 ∨ (addR f m a b).2 = 16 := by
    unfold addR canonR
    have hs := sumX_flags f m (belowN4 (clsN f a)) (sigN f a) (xpN f a) (belowN4 (clsN f b)) (sigN f b) (xpN f b)
    repeat' split
    all_goals first
      | (cases (decide (clsN f a = 8) || decide (clsN f b = 8)) <;> simp; done)
      | (simp; done)
      | omega
  omega
theorem addTurned_any (f m a b : Nat) (w : World) (hf : f < 256) (hm : m < 256) (ha : a < 2 ^ (64 * 2)) (hb : b < 2 ^ (64 * 2)) (hT : Tab w) :
    Calls Tryd.prog 8 #[.int .u8 f, .int .u8 m, BV a, BV b] w fun e w' => e = .returned (.bool true) ∧ Below w.heap.size w w' := by
  have cA := fun w hT => addAdd_any f m a b w hf hm ha hb hT
  have cB := fun w hT => addAdd_any f m b a w hf hm hb ha hT
  have cK := fun w hT => addKindless_any f a w hf ha hT
  rw [← (add_turned f m a b).1] at cB
  cases hok : binOk f m a b
  · have hN : addN f m a b = (0, 0, 2) := by unfold addN; rw [hok]; rfl
    rw [hN] at cA cB
    exact addTurned_bad f m a b _ w hT cA cB
  obtain ⟨⟨hf4', hm5'⟩, hfa, hfb⟩ : (decide (f < 4) = true ∧ decide (m < 5) = true) ∧ fitsB f a = true ∧ fitsB f b = true := by unfold binOk at hok; simp only [Bool.and_eq_true] at hok; exact hok
  have hf4 := of_decide_eq_true hf4'
  have hN : addN f m a b = ((addR f m a b).1, (addR f m a b).2, 0) := by unfold addN; rw [hok]; rfl
  rw [hN] at cA cB
  have hfl := addR_flags f m a b hok
  generalize (addR f m a b).1 = x at *
  generalize (addR f m a b).2 = fl at *
  cases hk : kindlessB f a
  · rw [hk] at cK
    obtain ⟨-, hc⟩ := kindless_not f a hk
    have cS := fun w => kindSign_any f a w hf ha
    have cZ := fun w => shapeZero_any f (fitsB f a && negN f a) w hf
    have hz := zero_parts f (negN f a) hf4
    have cN := fun w hT => addAdd_any f m a (zeroN f (fitsB f a && negN f a)) w hf hm ha (below_fits f _ (by rw [hfa, Bool.true_and]; exact hz.1)) hT
    have hz0 : addN f m a (zeroN f (fitsB f a && negN f a)) = (a, 0, 0) := by
      rw [hfa, Bool.true_and]
      unfold addN
      have : binOk f m a (zeroN f (negN f a)) = true := by unfold binOk; rw [hf4', hm5', hfa, hz.1]; rfl
      rw [this, add_zero f m a hf4 hc]; rfl
    rw [hz0] at cN
    rcases hfl with rfl | rfl | rfl | rfl
    · exact addTurned_good0 f m a b _ _ w hT _ cA cB cK cS cZ cN
    · exact addTurned_good1 f m a b _ _ w hT _ cA cB cK cS cZ cN
    · exact addTurned_good5 f m a b _ _ w hT _ cA cB cK cS cZ cN
    · exact addTurned_good16 f m a b _ _ w hT _ cA cB cK cS cZ cN
  · rw [hk] at cK
    rcases hfl with rfl | rfl | rfl | rfl
    · exact addTurned_less0 f m a b _ w hT cA cB cK
    · exact addTurned_less1 f m a b _ w hT cA cB cK
    · exact addTurned_less5 f m a b _ w hT cA cB cK
    · exact addTurned_less16 f m a b _ w hT cA cB cK
end Go.Proofs.YtjgonofkklpgaaaDoor

namespace Go.Proofs.YtjgonofkklpgaaaDoor
open Go.ChangeShapes Go.WideShapes Go.ChangeAt Go.RowKit
theorem own : ownKnob Tryd.prog.godebug = none := by kernel_rfl
theorem laidOut : laidOutB Tryd.prog = true := by kernel_rfl
/-- What every row of this seat lists. -/
def laidL : List (String × DataW Unit) := [("math/bits.deBruijn64tab", Rows.laid_math_bits_deBruijn64tab)]
theorem gTab : Tryd.prog.globalNamed "math/bits.deBruijn64tab" = some 0 := by kernel_rfl
theorem tTab : (Tryd.prog.globals[0]?).map (·.type) = some 184 := by kernel_rfl
theorem ren1 : Tryd.lays29_ren.g 1 = 0 := rfl
set_option maxRecDepth 100000 in
theorem door_met (os : Os) (args : Array Value) : laidMetH Tryd.prog laidL ((World.doorLaid Tryd.prog 400 os).forCall (fun _ _ => 0) ⟨#[], args, []⟩).memory :=
  laidMetH_of_parts3 (fuel := 8) (laidMet_of_run' 8 (by kernel_rfl) (by kernel_rfl)) (by kernel_rfl) (by kernel_rfl)
set_option maxRecDepth 100000 in
theorem datum_map {H : Type} : (Rows.laid_math_bits_deBruijn64tab : DataW H) = .agg (Lib.deBruijn64tab.map fun x => .lit (.int .u8 (x : Nat))) := rfl
theorem tab_len : Lib.deBruijn64tab.length = 64 := by decide
theorem tab_of_laid {W : World} (h : laidMetH Tryd.prog laidL W) : Tab W := by
  rw [MakeChecks.laidMetH_plain _ _ _ (by kernel_rfl)] at h
  obtain ⟨ps, ⟨g0, t0, cs0, f0, p0, q0, hg0, ht0, hv0, hd0, _, _⟩, _, _⟩ := h
  obtain rfl := Option.some.inj (gTab.symm.trans hg0)
  obtain rfl := Option.some.inj (tTab.symm.trans ht0)
  obtain ⟨xs, m1, rfl, hx1, hlen, hn, hel⟩ := DataW.trod_array Tryd.underlying184 hd0
  have c1 : Tryd.prog.cellsOf 5 = 1 := by kernel_rfl
  rw [c1] at hel
  simp only [Prod.mk.injEq, datum_map, DataW.agg.injEq] at hx1
  intro j hj
  rw [ren1]
  have hj64 : j < 64 := by rw [tab_len] at hj; exact hj
  have hcell := World.var?_cell hg0 hv0 j
  rw [hcell]
  have h1 := hel j hj64
  have hxj : xs[j]? = some xs[j] := List.getElem?_eq_getElem (by omega)
  rw [hxj, Nat.mul_one] at h1
  obtain ⟨n, e1, e2, _⟩ := DataW.trod_int Tryd.underlying5 h1
  have hm : (xs.map (·.1))[j]? = some (.lit (.int .u8 n)) := by rw [List.getElem?_map, hxj, e2]; rfl
  rw [← hx1.1, List.getElem?_map, List.getElem?_eq_getElem hj] at hm
  simp only [Option.map_some, Option.some.injEq, DataW.lit.injEq, Lit.int.injEq, true_and] at hm
  have hget : cs0[j]? = some (.int .u8 n) := by
    have h2 : ((cs0.toList.drop j).take 1)[0]? = some (.int .u8 n) := by rw [e1]; rfl
    rw [List.getElem?_take_of_lt (by decide), List.getElem?_drop, Nat.add_zero, Array.getElem?_toList] at h2
    exact h2
  rw [hget, ← hm, List.getD_eq_getElem?_getD, List.getElem?_eq_getElem hj]; rfl
theorem two_words (x y : Nat) (hx : x < 18446744073709551616) (hy : y < 18446744073709551616) : ∃ b : Nat, Value.agg #[.int .u64 (x : Nat), .int .u64 (y : Nat)] = BV b ∧ b < 2 ^ (64 * 2) := by
  refine ⟨x * 18446744073709551616 + y, ?_, by omega⟩
  have h1 : limb (x * 18446744073709551616 + y) 1 = (x : Nat) := by
    show ((limbN (x * 18446744073709551616 + y) 1 : Nat) : Int) = x
    unfold limbN; rw [show 2 ^ (64 * 1) = 18446744073709551616 from rfl]; omega
  have h0 : limb (x * 18446744073709551616 + y) 0 = (y : Nat) := by
    show ((limbN (x * 18446744073709551616 + y) 0 : Nat) : Int) = y
    unfold limbN; rw [show 2 ^ (64 * 0) = 1 from rfl]; omega
  show Value.agg #[_, _] = .agg #[.int .u64 (limb _ 1), .int .u64 (limb _ 0)]
  rw [h1, h0]
theorem bits_cells : Tryd.prog.cellsOf 26 = 2 := by kernel_rfl
set_option maxRecDepth 100000 in
/-- An argument of 128 bits is the encoding of a number. -/
theorem open_bits {H : Type} {enc : TypeId × Value → H} {W : World} {r : Reach} {base b0 : Nat} {spare : Nat → Bool} {held : Bool} {v : Value} {d : DataW H} {p : List MemPlace}
    (hv : Value.okWide Tryd.prog W r b0 26 v) (h : DataW.Trod enc Tryd.prog W base spare held 26 v d p) : ∃ b : Nat, v = BV b ∧ b < 2 ^ (64 * 2) := by
  obtain ⟨c0, c1, y0, y1, m, rfl, rfl, rfl, hy0, hy1⟩ := Go.Joins.open_agg2 Tryd.underlying26 (by kernel_rfl) bits_cells hv h
  obtain ⟨x, e0, rfl, wx⟩ := DataW.trod_int Tryd.underlying24 hy0
  obtain ⟨y, e1, rfl, wy⟩ := DataW.trod_int Tryd.underlying24 hy1
  simp at e0 e1
  subst e0 e1
  have bx := bounds_u64 wx
  have bY := bounds_u64 wy
  obtain ⟨x, rfl⟩ := Int.eq_ofNat_of_zero_le bx.1
  obtain ⟨y, rfl⟩ := Int.eq_ofNat_of_zero_le bY.1
  exact two_words x y (by omega) (by omega)
theorem nat_u8 {x : Int} (h : (Lit.int .u8 x).wf = true) : ∃ n : Nat, x = n ∧ n < 256 := by
  have b := bounds_u8 h
  obtain ⟨n, rfl⟩ := Int.eq_ofNat_of_zero_le b.1
  exact ⟨n, rfl, by omega⟩
end Go.Proofs.YtjgonofkklpgaaaDoor

namespace Go.Proofs.YtjgonofkklpgaaaDoor
open Go.ChangeShapes Go.WideShapes Go.ChangeAt Go.RowKit
namespace RowAddTurned
set_option maxRecDepth 100000 in
theorem lifted (os : Os) (started : os.Started) (H : Type) (enc : TypeId × Value → H) :
    ReturnsInHanded {} Tryd.checked os 8 .any (fun w args => (Rows.addTurnedSpec.pre enc Tryd.prog Tryd.f8 [] false w args ∧ laidMetH Tryd.prog laidL w) ∧ sizedMet enc Tryd.prog Tryd.f8 (OpenSpec.ofChange Rows.addTurnedSpec) false w args)
      (Rows.addTurnedSpec.post enc Tryd.prog Tryd.f8 false true false false) := by
  refine returnsInHanded_of_change_and (C := Tryd.checked) (X := fun w _ => laidMetH Tryd.prog laidL w) (fun _ _ _ hh h => h.of_heap hh) own started (by kernel_rfl) Tryd.func8
    (ChangeSpec.witness_shaped (enc := enc) (C := Tryd.checked) (os := os) (X := fun w _ => laidMetH Tryd.prog laidL w) false (World.doorLaid Tryd.prog 400 os) #[.int .u8 0, .int .u8 0, .agg #[.int .u64 0, .int .u64 0], .agg #[.int .u64 0, .int .u64 0]] 8 rfl (World.shaped_of_RefB (by kernel_rfl) (by kernel_rfl)) (by kernel_rfl) (by kernel_rfl) (by kernel_rfl) (door_met os _)) ?_
  intro W base args ds gs before hval0 hW _ _ hL _
  have hval : ∀ (j : Nat) t v, Tryd.f8.params[j]? = some t → args[j]? = some v → Value.okWide Tryd.prog W .any base t v := hval0
  have hW' := hW
  obtain ⟨p, q, hA0, hV, rfl, hfz, hnd⟩ := hW
  have hA : DataW.TrodAll enc Tryd.prog W 0 (fun _ => true) true Tryd.f8.params.toList args.toList ds p := hA0
  rw [Tryd.params8] at hA hval
  obtain ⟨v0, vs0, d0, ds0, p0, q0, hargs, rfl, rfl, h0, r0⟩ := trodAll_cons hA
  obtain ⟨v1, vs1, d1, ds1, p1, q1, rfl, rfl, rfl, h1, r1⟩ := trodAll_cons r0
  obtain ⟨v2, vs2, d2, ds2, p2, q2, rfl, rfl, rfl, h2, r2⟩ := trodAll_cons r1
  obtain ⟨v3, vs3, d3, ds3, p3, q3, rfl, rfl, rfl, h3, r3⟩ := trodAll_cons r2
  obtain ⟨rfl, rfl, rfl⟩ := trodAll_nil r3
  obtain rfl : args = #[v0, v1, v2, v3] := by cases args; simp_all
  obtain ⟨rfl, rfl⟩ := trodVars_none hV
  have hT : Tab W := tab_of_laid hL
  obtain ⟨b0, rfl, rfl, rfl, w0⟩ := open_int Tryd.underlying22 (hval 0 22 v0 rfl rfl) h0
  obtain ⟨a0, rfl, n0⟩ := nat_u8 w0
  obtain ⟨b1, rfl, rfl, rfl, w1⟩ := open_int Tryd.underlying23 (hval 1 23 v1 rfl rfl) h1
  obtain ⟨a1, rfl, n1⟩ := nat_u8 w1
  have k2 := h2
  have lt2 : ∀ x ∈ p2, x.block < W.heap.size := by obtain ⟨m, hm⟩ := k2; exact DataW.trod_lt m _ _ _ hm
  obtain ⟨a2, rfl, n2⟩ := open_bits (hval 2 26 v2 rfl rfl) h2
  have k3 := h3
  have lt3 : ∀ x ∈ p3, x.block < W.heap.size := by obtain ⟨m, hm⟩ := k3; exact DataW.trod_lt m _ _ _ hm
  obtain ⟨a3, rfl, n3⟩ := open_bits (hval 3 26 v3 rfl rfl) h3
  clear hA0 hval0
  refine (addTurned_any a0 a1 a2 a3 W n0 n1 n2 n3 hT).mono fun e W' ⟨he, bel⟩ => ?_
  subst he
  exact ⟨_, rfl, _, _, _, [], _, [], hW', trodAll_mk1 (shut_bool Tryd.underlying4 _), (trodAll_cons_mk (shut_int Tryd.underlying22 w0) (trodAll_cons_mk (shut_int Tryd.underlying23 w1) (trodAll_cons_mk (Below.trod laidOut (by kernel_rfl) (of_decide_eq_true (by kernel_rfl)) k2 bel lt2) (trodAll_cons_mk (Below.trod laidOut (by kernel_rfl) (of_decide_eq_true (by kernel_rfl)) k3 bel lt3) trodAll_mk0)))), rfl, bel.frame _, fun h => by cases h⟩
theorem over : Rows.addTurnedRow.holds Tryd.pinned (OpenSpec.ofChange Rows.addTurnedSpec) :=
  OpenClaim.holds_of_wide 8 Tryd.f8 rfl rfl rfl rfl rfl rfl rfl ⟨rfl, rfl, rfl, rfl, rfl⟩ rfl rfl rfl rfl rfl (by kernel_rfl) Tryd.func8 (by kernel_rfl)
    (of_decide_eq_true (by kernel_rfl)) (by unfold Func.isWrapper; first | (rw [if_pos (by decide +kernel)]; kernel_rfl) | (rw [if_neg (by decide +kernel)]; exact ⟨rfl, rfl⟩))
    (fun os started H enc _ => lifted os started H enc)
end RowAddTurned
/-- The card, for the claim. -/
theorem addTurned_holds : Rows.AddTurnedCardSaid :=
  Claim7.holds_tied_plain_at .later [] [.data] true (true, "df538d1dd8b40b69733ef903482d0ea26fd4d378a83c909b0e0edd723ed13feb") false
    RowAddTurned.over (fun _ h => by cases h) (by kernel_rfl) (fun _ h => by cases h) addTurned_row_tie rfl ⟨rfl, rfl⟩ (by kernel_rfl) rfl
    (fun f fn hf hfn => by
      obtain rfl : f = 8 := Option.some.inj ((show Tryd.prog.funcNamed "abacus/abacuslaw11.AddTurned" = some 8 by kernel_rfl).symm.trans hf) |>.symm
      obtain rfl : fn = Tryd.f8 := (Option.some.inj (Tryd.func8.symm.trans hfn)).symm
      exact ⟨by kernel_rfl, fun j t ht => by
        rw [Tryd.params8] at ht
        have hm : t ∈ [22, 23, 26, 26] := by simpa using Array.mem_of_getElem? ht
        have hall : ([22, 23, 26, 26].all fun u => !Tryd.prog.wantsStandIn u) = true := by kernel_rfl
        exact (show Tryd.prog.wantsStandIn t = false by simpa using List.all_eq_true.1 hall t hm)⟩)
    (by kernel_rfl)
#print axioms addTurned_holds
end Go.Proofs.YtjgonofkklpgaaaDoor
