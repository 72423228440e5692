/- Part 7 of what is proved: Opm, Grj, Pcx, Pco. -/
import Derived.Test.YtdcgcjmajacgiaaDoorSq2
import Derived.Test.YtdcgcjmajacgiaaDoorSq5
import Derived.Test.YtdcgcjmajacgiaaDoorSq6
set_option linter.unusedSimpArgs false
set_option linter.unusedVariables false
set_option linter.unnecessarySimpa false
namespace Go.Proofs.YtdcgcjmajacgiaaDoor
open Go.RowKit
theorem walk66 {P : Prop} (h : P := by
  go_wp2_with (first
    | ((with_reducible show wpList _ _ _ (⟨_, .box _ _, _, _, _, _⟩ :: _) _ _); refine H.box rfl rfl (cells_agg _) ?_; (intro g w H; simp only [Act.put, List.setIfInBounds_toArray, List.set_cons_zero, List.set_cons_succ]))
    | ((with_reducible show wpList _ _ _ (⟨_, .alloc 73, _, _, _, _⟩ :: _) _ _); refine H.mk0 rfl rQ rfl ?_; (intro g w H; simp only [Act.put, List.setIfInBounds_toArray, List.set_cons_zero, List.set_cons_succ]))
    | ((with_reducible show wpList _ _ _ (⟨_, .load 73 _, _, _, _, _⟩ :: _) _ _); refine H.ld rfl rQ rfl rfl (by repeat (first | with_reducible exact List.mem_cons_self | apply List.mem_cons_of_mem)) (by first | with_reducible exact ext_tri _ _ _ _ _ _ _ _ _ _ _ _) (by rfl) ?_; simp only [Act.put, List.setIfInBounds_toArray, List.set_cons_zero, List.set_cons_succ])
    | ((with_reducible show wpList _ _ _ (⟨_, .load 72 _, _, _, _, _⟩ :: _) _ _); refine H.ld rfl rP rfl rfl (by repeat (first | with_reducible exact List.mem_cons_self | apply List.mem_cons_of_mem)) (by first | with_reducible exact ext_parts _ _ _ _ | with_reducible exact ext_t0 _ _ _ _ _ _ _ _ _ _ _ _ | with_reducible exact ext_t1 _ _ _ _ _ _ _ _ _ _ _ _ | with_reducible exact ext_t2 _ _ _ _ _ _ _ _ _ _ _ _) (by rfl) ?_; simp only [Act.put, List.setIfInBounds_toArray, List.set_cons_zero, List.set_cons_succ])
    | ((with_reducible show wpList _ _ _ (⟨_, .load 27 _, _, _, _, _⟩ :: _) _ _); refine H.ld rfl rB rfl rfl (by repeat (first | with_reducible exact List.mem_cons_self | apply List.mem_cons_of_mem)) (by first | with_reducible exact ext_2 _ _) (by rfl) ?_; simp only [Act.put, List.setIfInBounds_toArray, List.set_cons_zero, List.set_cons_succ])
    | ((with_reducible show wpList _ _ _ (⟨_, .load 3 _, _, _, _, _⟩ :: _) _ _); refine H.ld1 rfl oI rfl rfl (by repeat (first | with_reducible exact List.mem_cons_self | apply List.mem_cons_of_mem)) (by first | with_reducible exact get_rough7 _ _ _ _ | with_reducible exact get_parts7 _ _ _ _ | with_reducible exact get_10 _) ?_; simp only [Act.put, List.setIfInBounds_toArray, List.set_cons_zero, List.set_cons_succ])
    | ((with_reducible show wpList _ _ _ (⟨_, .store 73 _ _, _, _, _, _⟩ :: _) _ _); refine H.st rfl rQ rfl rfl (cells_agg _) (by repeat (first | with_reducible exact Upd.head _ | apply Upd.tail)) (set_tri _ _ _ _ _ _ _ _ _ _ _ _ _ _ _ _ _ _ _ _ _ _ _ _ ) (by rfl) (by exact one_of rfl) (by first | exact ble_le rfl | (change _ + 1 ≤ 12; omega) | (change _ + 1 ≤ 6; omega)) ?_; (intro w H; simp only [Act.put]))
    | (go_at_call 9; ((with_reducible refine (cM _).mono ?_); rintro e w' ⟨rfl, rfl⟩))
    | (go_at_call 21; ((with_reducible refine (cF _).mono ?_); rintro e w' ⟨rfl, rfl⟩))
    )
  all_goals (refine bodyPost_ret (results_ct rfl rfl (H.res rQ (by repeat (first | with_reducible exact List.mem_cons_self | apply List.mem_cons_of_mem)) (ext_tri _ _ _ _ _ _ _ _ _ _ _ _) (by rfl))) rfl ⟨?_, H.below⟩; exact rfl)) : P := h
set_option maxHeartbeats 1600000 in
set_option maxRecDepth 100000 in
theorem mul_open2_mode (f m a b : Nat) (w0 : World) (g0 : Nat) (hB : Blk 27 w0 g0 (cat2 (bc a) (bc b))) (cM : ∀ w, Calls Tryd.prog 9 #[.int .u8 m] w fun e w' => e = .returned (.int .i64 2) ∧ w = w') :
    Calls Tryd.prog 66 #[.int .u8 f, .int .u8 m, .slice (some ⟨g0, 0, none⟩) 2 2] w0 fun e w' => e = .returned (.tuple #[.agg (tri 0 0 0 0 0 0 0 0 0 0 0 0), .bool false]) ∧ Below w0.heap.size w0 w' := by
  have H := Own.start w0
  go_enter Tryd.func66, Tryd.ntmps66
  exact walk66
set_option maxHeartbeats 1600000 in
set_option maxRecDepth 100000 in
theorem mul_open2_form (f m a b : Nat) (w0 : World) (g0 : Nat) (hB : Blk 27 w0 g0 (cat2 (bc a) (bc b))) (cM : ∀ w, Calls Tryd.prog 9 #[.int .u8 m] w fun e w' => e = .returned (.int .i64 0) ∧ w = w') (cF : ∀ w, Calls Tryd.prog 21 #[.int .u8 f] w fun e w' => e = .returned (.int .i64 2) ∧ w = w') :
    Calls Tryd.prog 66 #[.int .u8 f, .int .u8 m, .slice (some ⟨g0, 0, none⟩) 2 2] w0 fun e w' => e = .returned (.tuple #[.agg (tri 0 0 0 0 0 0 0 0 0 0 0 0), .bool false]) ∧ Below w0.heap.size w0 w' := by
  have H := Own.start w0
  go_enter Tryd.func66, Tryd.ntmps66
  exact walk66
set_option maxHeartbeats 1600000 in
set_option maxRecDepth 100000 in
theorem mul_open2_no0 (f m a b : Nat) (w0 : World) (hT : Tab w0) (g0 : Nat) (hB : Blk 27 w0 g0 (cat2 (bc a) (bc b))) (cM : ∀ w, Calls Tryd.prog 9 #[.int .u8 m] w fun e w' => e = .returned (.int .i64 0) ∧ w = w') (cF : ∀ w, Calls Tryd.prog 21 #[.int .u8 f] w fun e w' => e = .returned (.int .i64 0) ∧ w = w') (cUa : ∀ w, Tab w → Calls Tryd.prog 91 #[.int .u8 f, BV a] w fun e w' => e = .returned (.tuple #[.agg PZ, .int .i64 2]) ∧ Below w.heap.size w w') :
    Calls Tryd.prog 66 #[.int .u8 f, .int .u8 m, .slice (some ⟨g0, 0, none⟩) 2 2] w0 fun e w' => e = .returned (.tuple #[.agg (tri 0 0 0 0 0 0 0 0 0 0 0 0), .bool false]) ∧ Below w0.heap.size w0 w' := by
  have H := Own.start w0
  have HT := Lib.hid hT
  clear hT
  go_enter Tryd.func66, Tryd.ntmps66
  go_wp2_with (first
    | ((with_reducible show wpList _ _ _ (⟨_, .box _ _, _, _, _, _⟩ :: _) _ _); refine H.box rfl rfl (cells_agg _) ?_; (intro g w H; simp only [Act.put, List.setIfInBounds_toArray, List.set_cons_zero, List.set_cons_succ]))
    | ((with_reducible show wpList _ _ _ (⟨_, .alloc 73, _, _, _, _⟩ :: _) _ _); refine H.mk0 rfl rQ rfl ?_; (intro g w H; simp only [Act.put, List.setIfInBounds_toArray, List.set_cons_zero, List.set_cons_succ]))
    | ((with_reducible show wpList _ _ _ (⟨_, .alloc 72, _, _, _, _⟩ :: _) _ _); refine H.mk0 rfl rP rfl ?_; (intro g w H; simp only [Act.put, List.setIfInBounds_toArray, List.set_cons_zero, List.set_cons_succ]))
    | ((with_reducible show wpList _ _ _ (⟨_, .alloc 27, _, _, _, _⟩ :: _) _ _); refine H.mk0 rfl rB rfl ?_; (intro g w H; simp only [Act.put, List.setIfInBounds_toArray, List.set_cons_zero, List.set_cons_succ]))
    | ((with_reducible show wpList _ _ _ (⟨_, .load 73 _, _, _, _, _⟩ :: _) _ _); refine H.ld rfl rQ rfl rfl (by repeat (first | with_reducible exact List.mem_cons_self | apply List.mem_cons_of_mem)) (by first | with_reducible exact ext_tri _ _ _ _ _ _ _ _ _ _ _ _) (by rfl) ?_; simp only [Act.put, List.setIfInBounds_toArray, List.set_cons_zero, List.set_cons_succ])
    | ((with_reducible show wpList _ _ _ (⟨_, .load 72 _, _, _, _, _⟩ :: _) _ _); refine H.ld rfl rP rfl rfl (by repeat (first | with_reducible exact List.mem_cons_self | apply List.mem_cons_of_mem)) (by first | with_reducible exact ext_parts _ _ _ _ | with_reducible exact ext_t0 _ _ _ _ _ _ _ _ _ _ _ _ | with_reducible exact ext_t1 _ _ _ _ _ _ _ _ _ _ _ _ | with_reducible exact ext_t2 _ _ _ _ _ _ _ _ _ _ _ _) (by rfl) ?_; simp only [Act.put, List.setIfInBounds_toArray, List.set_cons_zero, List.set_cons_succ])
    | ((with_reducible show wpList _ _ _ (⟨_, .load 27 _, _, _, _, _⟩ :: _) _ _); refine H.ld rfl rB rfl rfl (by repeat (first | with_reducible exact List.mem_cons_self | apply List.mem_cons_of_mem)) (by first | with_reducible exact ext_2 _ _) (by rfl) ?_; simp only [Act.put, List.setIfInBounds_toArray, List.set_cons_zero, List.set_cons_succ])
    | ((with_reducible show wpList _ _ _ (⟨_, .load 3 _, _, _, _, _⟩ :: _) _ _); refine H.ld1 rfl oI rfl rfl (by repeat (first | with_reducible exact List.mem_cons_self | apply List.mem_cons_of_mem)) (by first | with_reducible exact get_rough7 _ _ _ _ | with_reducible exact get_parts7 _ _ _ _ | with_reducible exact get_10 _) ?_; simp only [Act.put, List.setIfInBounds_toArray, List.set_cons_zero, List.set_cons_succ])
    | ((with_reducible show wpList _ _ _ (⟨_, .store 73 _ _, _, _, _, _⟩ :: _) _ _); refine H.st rfl rQ rfl rfl (cells_agg _) (by repeat (first | with_reducible exact Upd.head _ | apply Upd.tail)) (set_tri _ _ _ _ _ _ _ _ _ _ _ _ _ _ _ _ _ _ _ _ _ _ _ _ ) (by rfl) (by exact one_of rfl) (by first | exact ble_le rfl | (change _ + 1 ≤ 12; omega) | (change _ + 1 ≤ 6; omega)) ?_; (intro w H; simp only [Act.put]))
    | ((with_reducible show wpList _ _ _ (⟨_, .store 72 _ _, _, _, _, _⟩ :: _) _ _); refine H.st (o := 0) rfl rP rfl rfl (cells_agg _) (by repeat (first | with_reducible exact Upd.head _ | apply Upd.tail)) (set_pw _ _ _ _ _ _ _ _) (by rfl) (by exact one_of rfl) (by first | exact ble_le rfl | (change _ + 1 ≤ 12; omega) | (change _ + 1 ≤ 6; omega)) ?_; (intro w H; simp only [Act.put]))
    | ((with_reducible show wpList _ _ _ (⟨_, .store 72 _ _, _, _, _, _⟩ :: _) _ _); refine H.st (o := 0) rfl rP rfl rfl (cells_agg _) (by repeat (first | with_reducible exact Upd.head _ | apply Upd.tail)) (set_t0 _ _ _ _ _ _ _ _ _ _ _ _ _ _ _ _ ) (by rfl) (by exact one_of rfl) (by first | exact ble_le rfl | (change _ + 1 ≤ 12; omega) | (change _ + 1 ≤ 6; omega)) ?_; (intro w H; simp only [Act.put]))
    | ((with_reducible show wpList _ _ _ (⟨_, .store 72 _ _, _, _, _, _⟩ :: _) _ _); refine H.st (o := 14) rfl rP rfl rfl (cells_agg _) (by repeat (first | with_reducible exact Upd.head _ | apply Upd.tail)) (set_t1 _ _ _ _ _ _ _ _ _ _ _ _ _ _ _ _ ) (by rfl) (by exact one_of rfl) (by first | exact ble_le rfl | (change _ + 1 ≤ 12; omega) | (change _ + 1 ≤ 6; omega)) ?_; (intro w H; simp only [Act.put]))
    | ((with_reducible show wpList _ _ _ (⟨_, .store 72 _ _, _, _, _, _⟩ :: _) _ _); refine H.st (o := 28) rfl rP rfl rfl (cells_agg _) (by repeat (first | with_reducible exact Upd.head _ | apply Upd.tail)) (set_t2 _ _ _ _ _ _ _ _ _ _ _ _ _ _ _ _ ) (by rfl) (by exact one_of rfl) (by first | exact ble_le rfl | (change _ + 1 ≤ 12; omega) | (change _ + 1 ≤ 6; omega)) ?_; (intro w H; simp only [Act.put]))
    | ((with_reducible show wpList _ _ _ (⟨_, .store 27 _ _, _, _, _, _⟩ :: _) _ _); refine H.st rfl rB rfl rfl (cells_agg _) (by repeat (first | with_reducible exact Upd.head _ | apply Upd.tail)) (set_bits _ _ _ _) (by rfl) (by exact one_of rfl) (by first | exact ble_le rfl | (change _ + 1 ≤ 12; omega) | (change _ + 1 ≤ 6; omega)) ?_; (intro w H; simp only [Act.put]))
    | ((with_reducible show wpList _ _ _ (⟨_, .load 27 _, _, _, _, _⟩ :: _) _ _); refine H.ldo rfl rB rfl rfl hB (by first | with_reducible exact cat2_0 (bc _) (bc _) | with_reducible exact cat2_1 (bc _) (bc _) rfl) (by rfl) ?_; simp only [Act.put, List.setIfInBounds_toArray, List.set_cons_zero, List.set_cons_succ])
    | (go_at_call 9; ((with_reducible refine (cM _).mono ?_); rintro e w' ⟨rfl, rfl⟩))
    | (go_at_call 21; ((with_reducible refine (cF _).mono ?_); rintro e w' ⟨rfl, rfl⟩))
    | (go_at_call 91; ((with_reducible refine (cUa _ (HT.out.below H.below)).mono ?_); rintro e w ⟨rfl, hb⟩; replace H := H.call hb; clear hb))
    )
  go_loopw [23] (fun i wr => (i = .int .i64 0 ∧ Own w0 wr [(g, 73, (tri 0 0 0 0 0 0 0 0 0 0 0 0))])) (fun i _ => 3 - (intOf i).toNat)
  case atStart => exact ⟨rfl, H⟩
  case round =>
    clear H
    obtain ⟨rfl, H⟩ := hrel
    · go_wp2_with (first
    | ((with_reducible show wpList _ _ _ (⟨_, .box _ _, _, _, _, _⟩ :: _) _ _); refine H.box rfl rfl (cells_agg _) ?_; (intro g w H; simp only [Act.put, List.setIfInBounds_toArray, List.set_cons_zero, List.set_cons_succ]))
    | ((with_reducible show wpList _ _ _ (⟨_, .alloc 73, _, _, _, _⟩ :: _) _ _); refine H.mk0 rfl rQ rfl ?_; (intro g w H; simp only [Act.put, List.setIfInBounds_toArray, List.set_cons_zero, List.set_cons_succ]))
    | ((with_reducible show wpList _ _ _ (⟨_, .alloc 72, _, _, _, _⟩ :: _) _ _); refine H.mk0 rfl rP rfl ?_; (intro g w H; simp only [Act.put, List.setIfInBounds_toArray, List.set_cons_zero, List.set_cons_succ]))
    | ((with_reducible show wpList _ _ _ (⟨_, .alloc 27, _, _, _, _⟩ :: _) _ _); refine H.mk0 rfl rB rfl ?_; (intro g w H; simp only [Act.put, List.setIfInBounds_toArray, List.set_cons_zero, List.set_cons_succ]))
    | ((with_reducible show wpList _ _ _ (⟨_, .load 73 _, _, _, _, _⟩ :: _) _ _); refine H.ld rfl rQ rfl rfl (by repeat (first | with_reducible exact List.mem_cons_self | apply List.mem_cons_of_mem)) (by first | with_reducible exact ext_tri _ _ _ _ _ _ _ _ _ _ _ _) (by rfl) ?_; simp only [Act.put, List.setIfInBounds_toArray, List.set_cons_zero, List.set_cons_succ])
    | ((with_reducible show wpList _ _ _ (⟨_, .load 72 _, _, _, _, _⟩ :: _) _ _); refine H.ld rfl rP rfl rfl (by repeat (first | with_reducible exact List.mem_cons_self | apply List.mem_cons_of_mem)) (by first | with_reducible exact ext_parts _ _ _ _ | with_reducible exact ext_t0 _ _ _ _ _ _ _ _ _ _ _ _ | with_reducible exact ext_t1 _ _ _ _ _ _ _ _ _ _ _ _ | with_reducible exact ext_t2 _ _ _ _ _ _ _ _ _ _ _ _) (by rfl) ?_; simp only [Act.put, List.setIfInBounds_toArray, List.set_cons_zero, List.set_cons_succ])
    | ((with_reducible show wpList _ _ _ (⟨_, .load 27 _, _, _, _, _⟩ :: _) _ _); refine H.ld rfl rB rfl rfl (by repeat (first | with_reducible exact List.mem_cons_self | apply List.mem_cons_of_mem)) (by first | with_reducible exact ext_2 _ _) (by rfl) ?_; simp only [Act.put, List.setIfInBounds_toArray, List.set_cons_zero, List.set_cons_succ])
    | ((with_reducible show wpList _ _ _ (⟨_, .load 3 _, _, _, _, _⟩ :: _) _ _); refine H.ld1 rfl oI rfl rfl (by repeat (first | with_reducible exact List.mem_cons_self | apply List.mem_cons_of_mem)) (by first | with_reducible exact get_rough7 _ _ _ _ | with_reducible exact get_parts7 _ _ _ _ | with_reducible exact get_10 _) ?_; simp only [Act.put, List.setIfInBounds_toArray, List.set_cons_zero, List.set_cons_succ])
    | ((with_reducible show wpList _ _ _ (⟨_, .store 73 _ _, _, _, _, _⟩ :: _) _ _); refine H.st rfl rQ rfl rfl (cells_agg _) (by repeat (first | with_reducible exact Upd.head _ | apply Upd.tail)) (set_tri _ _ _ _ _ _ _ _ _ _ _ _ _ _ _ _ _ _ _ _ _ _ _ _ ) (by rfl) (by exact one_of rfl) (by first | exact ble_le rfl | (change _ + 1 ≤ 12; omega) | (change _ + 1 ≤ 6; omega)) ?_; (intro w H; simp only [Act.put]))
    | ((with_reducible show wpList _ _ _ (⟨_, .store 72 _ _, _, _, _, _⟩ :: _) _ _); refine H.st (o := 0) rfl rP rfl rfl (cells_agg _) (by repeat (first | with_reducible exact Upd.head _ | apply Upd.tail)) (set_pw _ _ _ _ _ _ _ _) (by rfl) (by exact one_of rfl) (by first | exact ble_le rfl | (change _ + 1 ≤ 12; omega) | (change _ + 1 ≤ 6; omega)) ?_; (intro w H; simp only [Act.put]))
    | ((with_reducible show wpList _ _ _ (⟨_, .store 72 _ _, _, _, _, _⟩ :: _) _ _); refine H.st (o := 0) rfl rP rfl rfl (cells_agg _) (by repeat (first | with_reducible exact Upd.head _ | apply Upd.tail)) (set_t0 _ _ _ _ _ _ _ _ _ _ _ _ _ _ _ _ ) (by rfl) (by exact one_of rfl) (by first | exact ble_le rfl | (change _ + 1 ≤ 12; omega) | (change _ + 1 ≤ 6; omega)) ?_; (intro w H; simp only [Act.put]))
    | ((with_reducible show wpList _ _ _ (⟨_, .store 72 _ _, _, _, _, _⟩ :: _) _ _); refine H.st (o := 14) rfl rP rfl rfl (cells_agg _) (by repeat (first | with_reducible exact Upd.head _ | apply Upd.tail)) (set_t1 _ _ _ _ _ _ _ _ _ _ _ _ _ _ _ _ ) (by rfl) (by exact one_of rfl) (by first | exact ble_le rfl | (change _ + 1 ≤ 12; omega) | (change _ + 1 ≤ 6; omega)) ?_; (intro w H; simp only [Act.put]))
    | ((with_reducible show wpList _ _ _ (⟨_, .store 72 _ _, _, _, _, _⟩ :: _) _ _); refine H.st (o := 28) rfl rP rfl rfl (cells_agg _) (by repeat (first | with_reducible exact Upd.head _ | apply Upd.tail)) (set_t2 _ _ _ _ _ _ _ _ _ _ _ _ _ _ _ _ ) (by rfl) (by exact one_of rfl) (by first | exact ble_le rfl | (change _ + 1 ≤ 12; omega) | (change _ + 1 ≤ 6; omega)) ?_; (intro w H; simp only [Act.put]))
    | ((with_reducible show wpList _ _ _ (⟨_, .store 27 _ _, _, _, _, _⟩ :: _) _ _); refine H.st rfl rB rfl rfl (cells_agg _) (by repeat (first | with_reducible exact Upd.head _ | apply Upd.tail)) (set_bits _ _ _ _) (by rfl) (by exact one_of rfl) (by first | exact ble_le rfl | (change _ + 1 ≤ 12; omega) | (change _ + 1 ≤ 6; omega)) ?_; (intro w H; simp only [Act.put]))
    | ((with_reducible show wpList _ _ _ (⟨_, .load 27 _, _, _, _, _⟩ :: _) _ _); refine H.ldo rfl rB rfl rfl hB (by first | with_reducible exact cat2_0 (bc _) (bc _) | with_reducible exact cat2_1 (bc _) (bc _) rfl) (by rfl) ?_; simp only [Act.put, List.setIfInBounds_toArray, List.set_cons_zero, List.set_cons_succ])
    | (go_at_call 9; ((with_reducible refine (cM _).mono ?_); rintro e w' ⟨rfl, rfl⟩))
    | (go_at_call 21; ((with_reducible refine (cF _).mono ?_); rintro e w' ⟨rfl, rfl⟩))
    | (go_at_call 91; ((with_reducible refine (cUa _ (HT.out.below H.below)).mono ?_); rintro e w ⟨rfl, hb⟩; replace H := H.call hb; clear hb))
    )
      all_goals
        refine bodyPost_ret (results_ct rfl rfl (H.res rQ (by repeat (first | with_reducible exact List.mem_cons_self | apply List.mem_cons_of_mem)) (ext_tri _ _ _ _ _ _ _ _ _ _ _ _) (by rfl))) rfl ⟨?_, H.below⟩
        rfl
set_option maxHeartbeats 1600000 in
set_option maxRecDepth 100000 in
theorem mul_open2_no1 (f m a b : Nat) (w0 : World) (hT : Tab w0) (g0 : Nat) (hB : Blk 27 w0 g0 (cat2 (bc a) (bc b))) (cM : ∀ w, Calls Tryd.prog 9 #[.int .u8 m] w fun e w' => e = .returned (.int .i64 0) ∧ w = w') (cF : ∀ w, Calls Tryd.prog 21 #[.int .u8 f] w fun e w' => e = .returned (.int .i64 0) ∧ w = w') (cUa : ∀ w, Tab w → Calls Tryd.prog 91 #[.int .u8 f, BV a] w fun e w' => e = .returned (.tuple #[.agg (PT f a), .int .i64 0]) ∧ Below w.heap.size w w') (cUb : ∀ w, Tab w → Calls Tryd.prog 91 #[.int .u8 f, BV b] w fun e w' => e = .returned (.tuple #[.agg PZ, .int .i64 2]) ∧ Below w.heap.size w w') :
    Calls Tryd.prog 66 #[.int .u8 f, .int .u8 m, .slice (some ⟨g0, 0, none⟩) 2 2] w0 fun e w' => e = .returned (.tuple #[.agg (tri (clsN f a) (sigN f a) (xpN f a) (frN f a) 0 0 0 0 0 0 0 0), .bool false]) ∧ Below w0.heap.size w0 w' := by
  have H := Own.start w0
  have HT := Lib.hid hT
  clear hT
  go_enter Tryd.func66, Tryd.ntmps66
  go_wp2_with (first
    | ((with_reducible show wpList _ _ _ (⟨_, .box _ _, _, _, _, _⟩ :: _) _ _); refine H.box rfl rfl (cells_agg _) ?_; (intro g w H; simp only [Act.put, List.setIfInBounds_toArray, List.set_cons_zero, List.set_cons_succ]))
    | ((with_reducible show wpList _ _ _ (⟨_, .alloc 73, _, _, _, _⟩ :: _) _ _); refine H.mk0 rfl rQ rfl ?_; (intro g w H; simp only [Act.put, List.setIfInBounds_toArray, List.set_cons_zero, List.set_cons_succ]))
    | ((with_reducible show wpList _ _ _ (⟨_, .alloc 72, _, _, _, _⟩ :: _) _ _); refine H.mk0 rfl rP rfl ?_; (intro g w H; simp only [Act.put, List.setIfInBounds_toArray, List.set_cons_zero, List.set_cons_succ]))
    | ((with_reducible show wpList _ _ _ (⟨_, .alloc 27, _, _, _, _⟩ :: _) _ _); refine H.mk0 rfl rB rfl ?_; (intro g w H; simp only [Act.put, List.setIfInBounds_toArray, List.set_cons_zero, List.set_cons_succ]))
    | ((with_reducible show wpList _ _ _ (⟨_, .load 73 _, _, _, _, _⟩ :: _) _ _); refine H.ld rfl rQ rfl rfl (by repeat (first | with_reducible exact List.mem_cons_self | apply List.mem_cons_of_mem)) (by first | with_reducible exact ext_tri _ _ _ _ _ _ _ _ _ _ _ _) (by rfl) ?_; simp only [Act.put, List.setIfInBounds_toArray, List.set_cons_zero, List.set_cons_succ])
    | ((with_reducible show wpList _ _ _ (⟨_, .load 72 _, _, _, _, _⟩ :: _) _ _); refine H.ld rfl rP rfl rfl (by repeat (first | with_reducible exact List.mem_cons_self | apply List.mem_cons_of_mem)) (by first | with_reducible exact ext_parts _ _ _ _ | with_reducible exact ext_t0 _ _ _ _ _ _ _ _ _ _ _ _ | with_reducible exact ext_t1 _ _ _ _ _ _ _ _ _ _ _ _ | with_reducible exact ext_t2 _ _ _ _ _ _ _ _ _ _ _ _) (by rfl) ?_; simp only [Act.put, List.setIfInBounds_toArray, List.set_cons_zero, List.set_cons_succ])
    | ((with_reducible show wpList _ _ _ (⟨_, .load 27 _, _, _, _, _⟩ :: _) _ _); refine H.ld rfl rB rfl rfl (by repeat (first | with_reducible exact List.mem_cons_self | apply List.mem_cons_of_mem)) (by first | with_reducible exact ext_2 _ _) (by rfl) ?_; simp only [Act.put, List.setIfInBounds_toArray, List.set_cons_zero, List.set_cons_succ])
    | ((with_reducible show wpList _ _ _ (⟨_, .load 3 _, _, _, _, _⟩ :: _) _ _); refine H.ld1 rfl oI rfl rfl (by repeat (first | with_reducible exact List.mem_cons_self | apply List.mem_cons_of_mem)) (by first | with_reducible exact get_rough7 _ _ _ _ | with_reducible exact get_parts7 _ _ _ _ | with_reducible exact get_10 _) ?_; simp only [Act.put, List.setIfInBounds_toArray, List.set_cons_zero, List.set_cons_succ])
    | ((with_reducible show wpList _ _ _ (⟨_, .store 73 _ _, _, _, _, _⟩ :: _) _ _); refine H.st rfl rQ rfl rfl (cells_agg _) (by repeat (first | with_reducible exact Upd.head _ | apply Upd.tail)) (set_tri _ _ _ _ _ _ _ _ _ _ _ _ _ _ _ _ _ _ _ _ _ _ _ _ ) (by rfl) (by exact one_of rfl) (by first | exact ble_le rfl | (change _ + 1 ≤ 12; omega) | (change _ + 1 ≤ 6; omega)) ?_; (intro w H; simp only [Act.put]))
    | ((with_reducible show wpList _ _ _ (⟨_, .store 72 _ _, _, _, _, _⟩ :: _) _ _); refine H.st (o := 0) rfl rP rfl rfl (cells_agg _) (by repeat (first | with_reducible exact Upd.head _ | apply Upd.tail)) (set_pw _ _ _ _ _ _ _ _) (by rfl) (by exact one_of rfl) (by first | exact ble_le rfl | (change _ + 1 ≤ 12; omega) | (change _ + 1 ≤ 6; omega)) ?_; (intro w H; simp only [Act.put]))
    | ((with_reducible show wpList _ _ _ (⟨_, .store 72 _ _, _, _, _, _⟩ :: _) _ _); refine H.st (o := 0) rfl rP rfl rfl (cells_agg _) (by repeat (first | with_reducible exact Upd.head _ | apply Upd.tail)) (set_t0 _ _ _ _ _ _ _ _ _ _ _ _ _ _ _ _ ) (by rfl) (by exact one_of rfl) (by first | exact ble_le rfl | (change _ + 1 ≤ 12; omega) | (change _ + 1 ≤ 6; omega)) ?_; (intro w H; simp only [Act.put]))
    | ((with_reducible show wpList _ _ _ (⟨_, .store 72 _ _, _, _, _, _⟩ :: _) _ _); refine H.st (o := 14) rfl rP rfl rfl (cells_agg _) (by repeat (first | with_reducible exact Upd.head _ | apply Upd.tail)) (set_t1 _ _ _ _ _ _ _ _ _ _ _ _ _ _ _ _ ) (by rfl) (by exact one_of rfl) (by first | exact ble_le rfl | (change _ + 1 ≤ 12; omega) | (change _ + 1 ≤ 6; omega)) ?_; (intro w H; simp only [Act.put]))
    | ((with_reducible show wpList _ _ _ (⟨_, .store 72 _ _, _, _, _, _⟩ :: _) _ _); refine H.st (o := 28) rfl rP rfl rfl (cells_agg _) (by repeat (first | with_reducible exact Upd.head _ | apply Upd.tail)) (set_t2 _ _ _ _ _ _ _ _ _ _ _ _ _ _ _ _ ) (by rfl) (by exact one_of rfl) (by first | exact ble_le rfl | (change _ + 1 ≤ 12; omega) | (change _ + 1 ≤ 6; omega)) ?_; (intro w H; simp only [Act.put]))
    | ((with_reducible show wpList _ _ _ (⟨_, .store 27 _ _, _, _, _, _⟩ :: _) _ _); refine H.st rfl rB rfl rfl (cells_agg _) (by repeat (first | with_reducible exact Upd.head _ | apply Upd.tail)) (set_bits _ _ _ _) (by rfl) (by exact one_of rfl) (by first | exact ble_le rfl | (change _ + 1 ≤ 12; omega) | (change _ + 1 ≤ 6; omega)) ?_; (intro w H; simp only [Act.put]))
    | ((with_reducible show wpList _ _ _ (⟨_, .load 27 _, _, _, _, _⟩ :: _) _ _); refine H.ldo rfl rB rfl rfl hB (by first | with_reducible exact cat2_0 (bc _) (bc _) | with_reducible exact cat2_1 (bc _) (bc _) rfl) (by rfl) ?_; simp only [Act.put, List.setIfInBounds_toArray, List.set_cons_zero, List.set_cons_succ])
    | (go_at_call 9; ((with_reducible refine (cM _).mono ?_); rintro e w' ⟨rfl, rfl⟩))
    | (go_at_call 21; ((with_reducible refine (cF _).mono ?_); rintro e w' ⟨rfl, rfl⟩))
    | (go_at_call 91; ((with_reducible refine (cUa _ (HT.out.below H.below)).mono ?_); rintro e w ⟨rfl, hb⟩; replace H := H.call hb; clear hb))
    | (go_at_call 91; ((with_reducible refine (cUb _ (HT.out.below H.below)).mono ?_); rintro e w ⟨rfl, hb⟩; replace H := H.call hb; clear hb))
    )
  go_loopw [23] (fun i wr => (i = .int .i64 0 ∧ Own w0 wr [(g, 73, (tri 0 0 0 0 0 0 0 0 0 0 0 0))]) ∨ (i = .int .i64 1 ∧ Own w0 wr [(g, 73, (tri (clsN f a) (sigN f a) (xpN f a) (frN f a) 0 0 0 0 0 0 0 0))])) (fun i _ => 3 - (intOf i).toNat)
  case atStart => exact Or.inl ⟨rfl, H⟩
  case round =>
    clear H
    rcases hrel with ⟨rfl, H⟩ | ⟨rfl, H⟩
    · go_wp2_with (first
    | ((with_reducible show wpList _ _ _ (⟨_, .box _ _, _, _, _, _⟩ :: _) _ _); refine H.box rfl rfl (cells_agg _) ?_; (intro g w H; simp only [Act.put, List.setIfInBounds_toArray, List.set_cons_zero, List.set_cons_succ]))
    | ((with_reducible show wpList _ _ _ (⟨_, .alloc 73, _, _, _, _⟩ :: _) _ _); refine H.mk0 rfl rQ rfl ?_; (intro g w H; simp only [Act.put, List.setIfInBounds_toArray, List.set_cons_zero, List.set_cons_succ]))
    | ((with_reducible show wpList _ _ _ (⟨_, .alloc 72, _, _, _, _⟩ :: _) _ _); refine H.mk0 rfl rP rfl ?_; (intro g w H; simp only [Act.put, List.setIfInBounds_toArray, List.set_cons_zero, List.set_cons_succ]))
    | ((with_reducible show wpList _ _ _ (⟨_, .alloc 27, _, _, _, _⟩ :: _) _ _); refine H.mk0 rfl rB rfl ?_; (intro g w H; simp only [Act.put, List.setIfInBounds_toArray, List.set_cons_zero, List.set_cons_succ]))
    | ((with_reducible show wpList _ _ _ (⟨_, .load 73 _, _, _, _, _⟩ :: _) _ _); refine H.ld rfl rQ rfl rfl (by repeat (first | with_reducible exact List.mem_cons_self | apply List.mem_cons_of_mem)) (by first | with_reducible exact ext_tri _ _ _ _ _ _ _ _ _ _ _ _) (by rfl) ?_; simp only [Act.put, List.setIfInBounds_toArray, List.set_cons_zero, List.set_cons_succ])
    | ((with_reducible show wpList _ _ _ (⟨_, .load 72 _, _, _, _, _⟩ :: _) _ _); refine H.ld rfl rP rfl rfl (by repeat (first | with_reducible exact List.mem_cons_self | apply List.mem_cons_of_mem)) (by first | with_reducible exact ext_parts _ _ _ _ | with_reducible exact ext_t0 _ _ _ _ _ _ _ _ _ _ _ _ | with_reducible exact ext_t1 _ _ _ _ _ _ _ _ _ _ _ _ | with_reducible exact ext_t2 _ _ _ _ _ _ _ _ _ _ _ _) (by rfl) ?_; simp only [Act.put, List.setIfInBounds_toArray, List.set_cons_zero, List.set_cons_succ])
    | ((with_reducible show wpList _ _ _ (⟨_, .load 27 _, _, _, _, _⟩ :: _) _ _); refine H.ld rfl rB rfl rfl (by repeat (first | with_reducible exact List.mem_cons_self | apply List.mem_cons_of_mem)) (by first | with_reducible exact ext_2 _ _) (by rfl) ?_; simp only [Act.put, List.setIfInBounds_toArray, List.set_cons_zero, List.set_cons_succ])
    | ((with_reducible show wpList _ _ _ (⟨_, .load 3 _, _, _, _, _⟩ :: _) _ _); refine H.ld1 rfl oI rfl rfl (by repeat (first | with_reducible exact List.mem_cons_self | apply List.mem_cons_of_mem)) (by first | with_reducible exact get_rough7 _ _ _ _ | with_reducible exact get_parts7 _ _ _ _ | with_reducible exact get_10 _) ?_; simp only [Act.put, List.setIfInBounds_toArray, List.set_cons_zero, List.set_cons_succ])
    | ((with_reducible show wpList _ _ _ (⟨_, .store 73 _ _, _, _, _, _⟩ :: _) _ _); refine H.st rfl rQ rfl rfl (cells_agg _) (by repeat (first | with_reducible exact Upd.head _ | apply Upd.tail)) (set_tri _ _ _ _ _ _ _ _ _ _ _ _ _ _ _ _ _ _ _ _ _ _ _ _ ) (by rfl) (by exact one_of rfl) (by first | exact ble_le rfl | (change _ + 1 ≤ 12; omega) | (change _ + 1 ≤ 6; omega)) ?_; (intro w H; simp only [Act.put]))
    | ((with_reducible show wpList _ _ _ (⟨_, .store 72 _ _, _, _, _, _⟩ :: _) _ _); refine H.st (o := 0) rfl rP rfl rfl (cells_agg _) (by repeat (first | with_reducible exact Upd.head _ | apply Upd.tail)) (set_pw _ _ _ _ _ _ _ _) (by rfl) (by exact one_of rfl) (by first | exact ble_le rfl | (change _ + 1 ≤ 12; omega) | (change _ + 1 ≤ 6; omega)) ?_; (intro w H; simp only [Act.put]))
    | ((with_reducible show wpList _ _ _ (⟨_, .store 72 _ _, _, _, _, _⟩ :: _) _ _); refine H.st (o := 0) rfl rP rfl rfl (cells_agg _) (by repeat (first | with_reducible exact Upd.head _ | apply Upd.tail)) (set_t0 _ _ _ _ _ _ _ _ _ _ _ _ _ _ _ _ ) (by rfl) (by exact one_of rfl) (by first | exact ble_le rfl | (change _ + 1 ≤ 12; omega) | (change _ + 1 ≤ 6; omega)) ?_; (intro w H; simp only [Act.put]))
    | ((with_reducible show wpList _ _ _ (⟨_, .store 72 _ _, _, _, _, _⟩ :: _) _ _); refine H.st (o := 14) rfl rP rfl rfl (cells_agg _) (by repeat (first | with_reducible exact Upd.head _ | apply Upd.tail)) (set_t1 _ _ _ _ _ _ _ _ _ _ _ _ _ _ _ _ ) (by rfl) (by exact one_of rfl) (by first | exact ble_le rfl | (change _ + 1 ≤ 12; omega) | (change _ + 1 ≤ 6; omega)) ?_; (intro w H; simp only [Act.put]))
    | ((with_reducible show wpList _ _ _ (⟨_, .store 72 _ _, _, _, _, _⟩ :: _) _ _); refine H.st (o := 28) rfl rP rfl rfl (cells_agg _) (by repeat (first | with_reducible exact Upd.head _ | apply Upd.tail)) (set_t2 _ _ _ _ _ _ _ _ _ _ _ _ _ _ _ _ ) (by rfl) (by exact one_of rfl) (by first | exact ble_le rfl | (change _ + 1 ≤ 12; omega) | (change _ + 1 ≤ 6; omega)) ?_; (intro w H; simp only [Act.put]))
    | ((with_reducible show wpList _ _ _ (⟨_, .store 27 _ _, _, _, _, _⟩ :: _) _ _); refine H.st rfl rB rfl rfl (cells_agg _) (by repeat (first | with_reducible exact Upd.head _ | apply Upd.tail)) (set_bits _ _ _ _) (by rfl) (by exact one_of rfl) (by first | exact ble_le rfl | (change _ + 1 ≤ 12; omega) | (change _ + 1 ≤ 6; omega)) ?_; (intro w H; simp only [Act.put]))
    | ((with_reducible show wpList _ _ _ (⟨_, .load 27 _, _, _, _, _⟩ :: _) _ _); refine H.ldo rfl rB rfl rfl hB (by first | with_reducible exact cat2_0 (bc _) (bc _) | with_reducible exact cat2_1 (bc _) (bc _) rfl) (by rfl) ?_; simp only [Act.put, List.setIfInBounds_toArray, List.set_cons_zero, List.set_cons_succ])
    | (go_at_call 9; ((with_reducible refine (cM _).mono ?_); rintro e w' ⟨rfl, rfl⟩))
    | (go_at_call 21; ((with_reducible refine (cF _).mono ?_); rintro e w' ⟨rfl, rfl⟩))
    | (go_at_call 91; ((with_reducible refine (cUa _ (HT.out.below H.below)).mono ?_); rintro e w ⟨rfl, hb⟩; replace H := H.call hb; clear hb))
    | (go_at_call 91; ((with_reducible refine (cUb _ (HT.out.below H.below)).mono ?_); rintro e w ⟨rfl, hb⟩; replace H := H.call hb; clear hb))
    )
      all_goals
        go_roundw
        case rel => exact Or.inr (⟨by go_num, H.sub (by repeat (first | with_reducible exact List.Sublist.refl _ | with_reducible apply List.Sublist.cons_cons | with_reducible apply List.Sublist.cons))⟩)
        case measure => simp [intOf]
    · go_wp2_with (first
    | ((with_reducible show wpList _ _ _ (⟨_, .box _ _, _, _, _, _⟩ :: _) _ _); refine H.box rfl rfl (cells_agg _) ?_; (intro g w H; simp only [Act.put, List.setIfInBounds_toArray, List.set_cons_zero, List.set_cons_succ]))
    | ((with_reducible show wpList _ _ _ (⟨_, .alloc 73, _, _, _, _⟩ :: _) _ _); refine H.mk0 rfl rQ rfl ?_; (intro g w H; simp only [Act.put, List.setIfInBounds_toArray, List.set_cons_zero, List.set_cons_succ]))
    | ((with_reducible show wpList _ _ _ (⟨_, .alloc 72, _, _, _, _⟩ :: _) _ _); refine H.mk0 rfl rP rfl ?_; (intro g w H; simp only [Act.put, List.setIfInBounds_toArray, List.set_cons_zero, List.set_cons_succ]))
    | ((with_reducible show wpList _ _ _ (⟨_, .alloc 27, _, _, _, _⟩ :: _) _ _); refine H.mk0 rfl rB rfl ?_; (intro g w H; simp only [Act.put, List.setIfInBounds_toArray, List.set_cons_zero, List.set_cons_succ]))
    | ((with_reducible show wpList _ _ _ (⟨_, .load 73 _, _, _, _, _⟩ :: _) _ _); refine H.ld rfl rQ rfl rfl (by repeat (first | with_reducible exact List.mem_cons_self | apply List.mem_cons_of_mem)) (by first | with_reducible exact ext_tri _ _ _ _ _ _ _ _ _ _ _ _) (by rfl) ?_; simp only [Act.put, List.setIfInBounds_toArray, List.set_cons_zero, List.set_cons_succ])
    | ((with_reducible show wpList _ _ _ (⟨_, .load 72 _, _, _, _, _⟩ :: _) _ _); refine H.ld rfl rP rfl rfl (by repeat (first | with_reducible exact List.mem_cons_self | apply List.mem_cons_of_mem)) (by first | with_reducible exact ext_parts _ _ _ _ | with_reducible exact ext_t0 _ _ _ _ _ _ _ _ _ _ _ _ | with_reducible exact ext_t1 _ _ _ _ _ _ _ _ _ _ _ _ | with_reducible exact ext_t2 _ _ _ _ _ _ _ _ _ _ _ _) (by rfl) ?_; simp only [Act.put, List.setIfInBounds_toArray, List.set_cons_zero, List.set_cons_succ])
    | ((with_reducible show wpList _ _ _ (⟨_, .load 27 _, _, _, _, _⟩ :: _) _ _); refine H.ld rfl rB rfl rfl (by repeat (first | with_reducible exact List.mem_cons_self | apply List.mem_cons_of_mem)) (by first | with_reducible exact ext_2 _ _) (by rfl) ?_; simp only [Act.put, List.setIfInBounds_toArray, List.set_cons_zero, List.set_cons_succ])
    | ((with_reducible show wpList _ _ _ (⟨_, .load 3 _, _, _, _, _⟩ :: _) _ _); refine H.ld1 rfl oI rfl rfl (by repeat (first | with_reducible exact List.mem_cons_self | apply List.mem_cons_of_mem)) (by first | with_reducible exact get_rough7 _ _ _ _ | with_reducible exact get_parts7 _ _ _ _ | with_reducible exact get_10 _) ?_; simp only [Act.put, List.setIfInBounds_toArray, List.set_cons_zero, List.set_cons_succ])
    | ((with_reducible show wpList _ _ _ (⟨_, .store 73 _ _, _, _, _, _⟩ :: _) _ _); refine H.st rfl rQ rfl rfl (cells_agg _) (by repeat (first | with_reducible exact Upd.head _ | apply Upd.tail)) (set_tri _ _ _ _ _ _ _ _ _ _ _ _ _ _ _ _ _ _ _ _ _ _ _ _ ) (by rfl) (by exact one_of rfl) (by first | exact ble_le rfl | (change _ + 1 ≤ 12; omega) | (change _ + 1 ≤ 6; omega)) ?_; (intro w H; simp only [Act.put]))
    | ((with_reducible show wpList _ _ _ (⟨_, .store 72 _ _, _, _, _, _⟩ :: _) _ _); refine H.st (o := 0) rfl rP rfl rfl (cells_agg _) (by repeat (first | with_reducible exact Upd.head _ | apply Upd.tail)) (set_pw _ _ _ _ _ _ _ _) (by rfl) (by exact one_of rfl) (by first | exact ble_le rfl | (change _ + 1 ≤ 12; omega) | (change _ + 1 ≤ 6; omega)) ?_; (intro w H; simp only [Act.put]))
    | ((with_reducible show wpList _ _ _ (⟨_, .store 72 _ _, _, _, _, _⟩ :: _) _ _); refine H.st (o := 0) rfl rP rfl rfl (cells_agg _) (by repeat (first | with_reducible exact Upd.head _ | apply Upd.tail)) (set_t0 _ _ _ _ _ _ _ _ _ _ _ _ _ _ _ _ ) (by rfl) (by exact one_of rfl) (by first | exact ble_le rfl | (change _ + 1 ≤ 12; omega) | (change _ + 1 ≤ 6; omega)) ?_; (intro w H; simp only [Act.put]))
    | ((with_reducible show wpList _ _ _ (⟨_, .store 72 _ _, _, _, _, _⟩ :: _) _ _); refine H.st (o := 14) rfl rP rfl rfl (cells_agg _) (by repeat (first | with_reducible exact Upd.head _ | apply Upd.tail)) (set_t1 _ _ _ _ _ _ _ _ _ _ _ _ _ _ _ _ ) (by rfl) (by exact one_of rfl) (by first | exact ble_le rfl | (change _ + 1 ≤ 12; omega) | (change _ + 1 ≤ 6; omega)) ?_; (intro w H; simp only [Act.put]))
    | ((with_reducible show wpList _ _ _ (⟨_, .store 72 _ _, _, _, _, _⟩ :: _) _ _); refine H.st (o := 28) rfl rP rfl rfl (cells_agg _) (by repeat (first | with_reducible exact Upd.head _ | apply Upd.tail)) (set_t2 _ _ _ _ _ _ _ _ _ _ _ _ _ _ _ _ ) (by rfl) (by exact one_of rfl) (by first | exact ble_le rfl | (change _ + 1 ≤ 12; omega) | (change _ + 1 ≤ 6; omega)) ?_; (intro w H; simp only [Act.put]))
    | ((with_reducible show wpList _ _ _ (⟨_, .store 27 _ _, _, _, _, _⟩ :: _) _ _); refine H.st rfl rB rfl rfl (cells_agg _) (by repeat (first | with_reducible exact Upd.head _ | apply Upd.tail)) (set_bits _ _ _ _) (by rfl) (by exact one_of rfl) (by first | exact ble_le rfl | (change _ + 1 ≤ 12; omega) | (change _ + 1 ≤ 6; omega)) ?_; (intro w H; simp only [Act.put]))
    | ((with_reducible show wpList _ _ _ (⟨_, .load 27 _, _, _, _, _⟩ :: _) _ _); refine H.ldo rfl rB rfl rfl hB (by first | with_reducible exact cat2_0 (bc _) (bc _) | with_reducible exact cat2_1 (bc _) (bc _) rfl) (by rfl) ?_; simp only [Act.put, List.setIfInBounds_toArray, List.set_cons_zero, List.set_cons_succ])
    | (go_at_call 9; ((with_reducible refine (cM _).mono ?_); rintro e w' ⟨rfl, rfl⟩))
    | (go_at_call 21; ((with_reducible refine (cF _).mono ?_); rintro e w' ⟨rfl, rfl⟩))
    | (go_at_call 91; ((with_reducible refine (cUa _ (HT.out.below H.below)).mono ?_); rintro e w ⟨rfl, hb⟩; replace H := H.call hb; clear hb))
    | (go_at_call 91; ((with_reducible refine (cUb _ (HT.out.below H.below)).mono ?_); rintro e w ⟨rfl, hb⟩; replace H := H.call hb; clear hb))
    )
      all_goals
        refine bodyPost_ret (results_ct rfl rfl (H.res rQ (by repeat (first | with_reducible exact List.mem_cons_self | apply List.mem_cons_of_mem)) (ext_tri _ _ _ _ _ _ _ _ _ _ _ _) (by rfl))) rfl ⟨?_, H.below⟩
        rfl
set_option maxHeartbeats 1600000 in
set_option maxRecDepth 100000 in
theorem mul_open2_ok (f m a b : Nat) (w0 : World) (hT : Tab w0) (g0 : Nat) (hB : Blk 27 w0 g0 (cat2 (bc a) (bc b))) (cM : ∀ w, Calls Tryd.prog 9 #[.int .u8 m] w fun e w' => e = .returned (.int .i64 0) ∧ w = w') (cF : ∀ w, Calls Tryd.prog 21 #[.int .u8 f] w fun e w' => e = .returned (.int .i64 0) ∧ w = w') (cUa : ∀ w, Tab w → Calls Tryd.prog 91 #[.int .u8 f, BV a] w fun e w' => e = .returned (.tuple #[.agg (PT f a), .int .i64 0]) ∧ Below w.heap.size w w') (cUb : ∀ w, Tab w → Calls Tryd.prog 91 #[.int .u8 f, BV b] w fun e w' => e = .returned (.tuple #[.agg (PT f b), .int .i64 0]) ∧ Below w.heap.size w w') :
    Calls Tryd.prog 66 #[.int .u8 f, .int .u8 m, .slice (some ⟨g0, 0, none⟩) 2 2] w0 fun e w' => e = .returned (.tuple #[.agg (tri (clsN f a) (sigN f a) (xpN f a) (frN f a) (clsN f b) (sigN f b) (xpN f b) (frN f b) 0 0 0 0), .bool true]) ∧ Below w0.heap.size w0 w' := by
  have H := Own.start w0
  have HT := Lib.hid hT
  clear hT
  go_enter Tryd.func66, Tryd.ntmps66
  go_wp2_with (first
    | ((with_reducible show wpList _ _ _ (⟨_, .box _ _, _, _, _, _⟩ :: _) _ _); refine H.box rfl rfl (cells_agg _) ?_; (intro g w H; simp only [Act.put, List.setIfInBounds_toArray, List.set_cons_zero, List.set_cons_succ]))
    | ((with_reducible show wpList _ _ _ (⟨_, .alloc 73, _, _, _, _⟩ :: _) _ _); refine H.mk0 rfl rQ rfl ?_; (intro g w H; simp only [Act.put, List.setIfInBounds_toArray, List.set_cons_zero, List.set_cons_succ]))
    | ((with_reducible show wpList _ _ _ (⟨_, .alloc 72, _, _, _, _⟩ :: _) _ _); refine H.mk0 rfl rP rfl ?_; (intro g w H; simp only [Act.put, List.setIfInBounds_toArray, List.set_cons_zero, List.set_cons_succ]))
    | ((with_reducible show wpList _ _ _ (⟨_, .alloc 27, _, _, _, _⟩ :: _) _ _); refine H.mk0 rfl rB rfl ?_; (intro g w H; simp only [Act.put, List.setIfInBounds_toArray, List.set_cons_zero, List.set_cons_succ]))
    | ((with_reducible show wpList _ _ _ (⟨_, .load 73 _, _, _, _, _⟩ :: _) _ _); refine H.ld rfl rQ rfl rfl (by repeat (first | with_reducible exact List.mem_cons_self | apply List.mem_cons_of_mem)) (by first | with_reducible exact ext_tri _ _ _ _ _ _ _ _ _ _ _ _) (by rfl) ?_; simp only [Act.put, List.setIfInBounds_toArray, List.set_cons_zero, List.set_cons_succ])
    | ((with_reducible show wpList _ _ _ (⟨_, .load 72 _, _, _, _, _⟩ :: _) _ _); refine H.ld rfl rP rfl rfl (by repeat (first | with_reducible exact List.mem_cons_self | apply List.mem_cons_of_mem)) (by first | with_reducible exact ext_parts _ _ _ _ | with_reducible exact ext_t0 _ _ _ _ _ _ _ _ _ _ _ _ | with_reducible exact ext_t1 _ _ _ _ _ _ _ _ _ _ _ _ | with_reducible exact ext_t2 _ _ _ _ _ _ _ _ _ _ _ _) (by rfl) ?_; simp only [Act.put, List.setIfInBounds_toArray, List.set_cons_zero, List.set_cons_succ])
    | ((with_reducible show wpList _ _ _ (⟨_, .load 27 _, _, _, _, _⟩ :: _) _ _); refine H.ld rfl rB rfl rfl (by repeat (first | with_reducible exact List.mem_cons_self | apply List.mem_cons_of_mem)) (by first | with_reducible exact ext_2 _ _) (by rfl) ?_; simp only [Act.put, List.setIfInBounds_toArray, List.set_cons_zero, List.set_cons_succ])
    | ((with_reducible show wpList _ _ _ (⟨_, .load 3 _, _, _, _, _⟩ :: _) _ _); refine H.ld1 rfl oI rfl rfl (by repeat (first | with_reducible exact List.mem_cons_self | apply List.mem_cons_of_mem)) (by first | with_reducible exact get_rough7 _ _ _ _ | with_reducible exact get_parts7 _ _ _ _ | with_reducible exact get_10 _) ?_; simp only [Act.put, List.setIfInBounds_toArray, List.set_cons_zero, List.set_cons_succ])
    | ((with_reducible show wpList _ _ _ (⟨_, .store 73 _ _, _, _, _, _⟩ :: _) _ _); refine H.st rfl rQ rfl rfl (cells_agg _) (by repeat (first | with_reducible exact Upd.head _ | apply Upd.tail)) (set_tri _ _ _ _ _ _ _ _ _ _ _ _ _ _ _ _ _ _ _ _ _ _ _ _ ) (by rfl) (by exact one_of rfl) (by first | exact ble_le rfl | (change _ + 1 ≤ 12; omega) | (change _ + 1 ≤ 6; omega)) ?_; (intro w H; simp only [Act.put]))
    | ((with_reducible show wpList _ _ _ (⟨_, .store 72 _ _, _, _, _, _⟩ :: _) _ _); refine H.st (o := 0) rfl rP rfl rfl (cells_agg _) (by repeat (first | with_reducible exact Upd.head _ | apply Upd.tail)) (set_pw _ _ _ _ _ _ _ _) (by rfl) (by exact one_of rfl) (by first | exact ble_le rfl | (change _ + 1 ≤ 12; omega) | (change _ + 1 ≤ 6; omega)) ?_; (intro w H; simp only [Act.put]))
    | ((with_reducible show wpList _ _ _ (⟨_, .store 72 _ _, _, _, _, _⟩ :: _) _ _); refine H.st (o := 0) rfl rP rfl rfl (cells_agg _) (by repeat (first | with_reducible exact Upd.head _ | apply Upd.tail)) (set_t0 _ _ _ _ _ _ _ _ _ _ _ _ _ _ _ _ ) (by rfl) (by exact one_of rfl) (by first | exact ble_le rfl | (change _ + 1 ≤ 12; omega) | (change _ + 1 ≤ 6; omega)) ?_; (intro w H; simp only [Act.put]))
    | ((with_reducible show wpList _ _ _ (⟨_, .store 72 _ _, _, _, _, _⟩ :: _) _ _); refine H.st (o := 14) rfl rP rfl rfl (cells_agg _) (by repeat (first | with_reducible exact Upd.head _ | apply Upd.tail)) (set_t1 _ _ _ _ _ _ _ _ _ _ _ _ _ _ _ _ ) (by rfl) (by exact one_of rfl) (by first | exact ble_le rfl | (change _ + 1 ≤ 12; omega) | (change _ + 1 ≤ 6; omega)) ?_; (intro w H; simp only [Act.put]))
    | ((with_reducible show wpList _ _ _ (⟨_, .store 72 _ _, _, _, _, _⟩ :: _) _ _); refine H.st (o := 28) rfl rP rfl rfl (cells_agg _) (by repeat (first | with_reducible exact Upd.head _ | apply Upd.tail)) (set_t2 _ _ _ _ _ _ _ _ _ _ _ _ _ _ _ _ ) (by rfl) (by exact one_of rfl) (by first | exact ble_le rfl | (change _ + 1 ≤ 12; omega) | (change _ + 1 ≤ 6; omega)) ?_; (intro w H; simp only [Act.put]))
    | ((with_reducible show wpList _ _ _ (⟨_, .store 27 _ _, _, _, _, _⟩ :: _) _ _); refine H.st rfl rB rfl rfl (cells_agg _) (by repeat (first | with_reducible exact Upd.head _ | apply Upd.tail)) (set_bits _ _ _ _) (by rfl) (by exact one_of rfl) (by first | exact ble_le rfl | (change _ + 1 ≤ 12; omega) | (change _ + 1 ≤ 6; omega)) ?_; (intro w H; simp only [Act.put]))
    | ((with_reducible show wpList _ _ _ (⟨_, .load 27 _, _, _, _, _⟩ :: _) _ _); refine H.ldo rfl rB rfl rfl hB (by first | with_reducible exact cat2_0 (bc _) (bc _) | with_reducible exact cat2_1 (bc _) (bc _) rfl) (by rfl) ?_; simp only [Act.put, List.setIfInBounds_toArray, List.set_cons_zero, List.set_cons_succ])
    | (go_at_call 9; ((with_reducible refine (cM _).mono ?_); rintro e w' ⟨rfl, rfl⟩))
    | (go_at_call 21; ((with_reducible refine (cF _).mono ?_); rintro e w' ⟨rfl, rfl⟩))
    | (go_at_call 91; ((with_reducible refine (cUa _ (HT.out.below H.below)).mono ?_); rintro e w ⟨rfl, hb⟩; replace H := H.call hb; clear hb))
    | (go_at_call 91; ((with_reducible refine (cUb _ (HT.out.below H.below)).mono ?_); rintro e w ⟨rfl, hb⟩; replace H := H.call hb; clear hb))
    )
  go_loopw [23] (fun i wr => (i = .int .i64 0 ∧ Own w0 wr [(g, 73, (tri 0 0 0 0 0 0 0 0 0 0 0 0))]) ∨ (i = .int .i64 1 ∧ Own w0 wr [(g, 73, (tri (clsN f a) (sigN f a) (xpN f a) (frN f a) 0 0 0 0 0 0 0 0))]) ∨ (i = .int .i64 2 ∧ Own w0 wr [(g, 73, (tri (clsN f a) (sigN f a) (xpN f a) (frN f a) (clsN f b) (sigN f b) (xpN f b) (frN f b) 0 0 0 0))])) (fun i _ => 3 - (intOf i).toNat)
  case atStart => exact Or.inl ⟨rfl, H⟩
  case round =>
    clear H
    rcases hrel with ⟨rfl, H⟩ | ⟨rfl, H⟩ | ⟨rfl, H⟩
    · go_wp2_with (first
    | ((with_reducible show wpList _ _ _ (⟨_, .box _ _, _, _, _, _⟩ :: _) _ _); refine H.box rfl rfl (cells_agg _) ?_; (intro g w H; simp only [Act.put, List.setIfInBounds_toArray, List.set_cons_zero, List.set_cons_succ]))
    | ((with_reducible show wpList _ _ _ (⟨_, .alloc 73, _, _, _, _⟩ :: _) _ _); refine H.mk0 rfl rQ rfl ?_; (intro g w H; simp only [Act.put, List.setIfInBounds_toArray, List.set_cons_zero, List.set_cons_succ]))
    | ((with_reducible show wpList _ _ _ (⟨_, .alloc 72, _, _, _, _⟩ :: _) _ _); refine H.mk0 rfl rP rfl ?_; (intro g w H; simp only [Act.put, List.setIfInBounds_toArray, List.set_cons_zero, List.set_cons_succ]))
    | ((with_reducible show wpList _ _ _ (⟨_, .alloc 27, _, _, _, _⟩ :: _) _ _); refine H.mk0 rfl rB rfl ?_; (intro g w H; simp only [Act.put, List.setIfInBounds_toArray, List.set_cons_zero, List.set_cons_succ]))
    | ((with_reducible show wpList _ _ _ (⟨_, .load 73 _, _, _, _, _⟩ :: _) _ _); refine H.ld rfl rQ rfl rfl (by repeat (first | with_reducible exact List.mem_cons_self | apply List.mem_cons_of_mem)) (by first | with_reducible exact ext_tri _ _ _ _ _ _ _ _ _ _ _ _) (by rfl) ?_; simp only [Act.put, List.setIfInBounds_toArray, List.set_cons_zero, List.set_cons_succ])
    | ((with_reducible show wpList _ _ _ (⟨_, .load 72 _, _, _, _, _⟩ :: _) _ _); refine H.ld rfl rP rfl rfl (by repeat (first | with_reducible exact List.mem_cons_self | apply List.mem_cons_of_mem)) (by first | with_reducible exact ext_parts _ _ _ _ | with_reducible exact ext_t0 _ _ _ _ _ _ _ _ _ _ _ _ | with_reducible exact ext_t1 _ _ _ _ _ _ _ _ _ _ _ _ | with_reducible exact ext_t2 _ _ _ _ _ _ _ _ _ _ _ _) (by rfl) ?_; simp only [Act.put, List.setIfInBounds_toArray, List.set_cons_zero, List.set_cons_succ])
    | ((with_reducible show wpList _ _ _ (⟨_, .load 27 _, _, _, _, _⟩ :: _) _ _); refine H.ld rfl rB rfl rfl (by repeat (first | with_reducible exact List.mem_cons_self | apply List.mem_cons_of_mem)) (by first | with_reducible exact ext_2 _ _) (by rfl) ?_; simp only [Act.put, List.setIfInBounds_toArray, List.set_cons_zero, List.set_cons_succ])
    | ((with_reducible show wpList _ _ _ (⟨_, .load 3 _, _, _, _, _⟩ :: _) _ _); refine H.ld1 rfl oI rfl rfl (by repeat (first | with_reducible exact List.mem_cons_self | apply List.mem_cons_of_mem)) (by first | with_reducible exact get_rough7 _ _ _ _ | with_reducible exact get_parts7 _ _ _ _ | with_reducible exact get_10 _) ?_; simp only [Act.put, List.setIfInBounds_toArray, List.set_cons_zero, List.set_cons_succ])
    | ((with_reducible show wpList _ _ _ (⟨_, .store 73 _ _, _, _, _, _⟩ :: _) _ _); refine H.st rfl rQ rfl rfl (cells_agg _) (by repeat (first | with_reducible exact Upd.head _ | apply Upd.tail)) (set_tri _ _ _ _ _ _ _ _ _ _ _ _ _ _ _ _ _ _ _ _ _ _ _ _ ) (by rfl) (by exact one_of rfl) (by first | exact ble_le rfl | (change _ + 1 ≤ 12; omega) | (change _ + 1 ≤ 6; omega)) ?_; (intro w H; simp only [Act.put]))
    | ((with_reducible show wpList _ _ _ (⟨_, .store 72 _ _, _, _, _, _⟩ :: _) _ _); refine H.st (o := 0) rfl rP rfl rfl (cells_agg _) (by repeat (first | with_reducible exact Upd.head _ | apply Upd.tail)) (set_pw _ _ _ _ _ _ _ _) (by rfl) (by exact one_of rfl) (by first | exact ble_le rfl | (change _ + 1 ≤ 12; omega) | (change _ + 1 ≤ 6; omega)) ?_; (intro w H; simp only [Act.put]))
    | ((with_reducible show wpList _ _ _ (⟨_, .store 72 _ _, _, _, _, _⟩ :: _) _ _); refine H.st (o := 0) rfl rP rfl rfl (cells_agg _) (by repeat (first | with_reducible exact Upd.head _ | apply Upd.tail)) (set_t0 _ _ _ _ _ _ _ _ _ _ _ _ _ _ _ _ ) (by rfl) (by exact one_of rfl) (by first | exact ble_le rfl | (change _ + 1 ≤ 12; omega) | (change _ + 1 ≤ 6; omega)) ?_; (intro w H; simp only [Act.put]))
    | ((with_reducible show wpList _ _ _ (⟨_, .store 72 _ _, _, _, _, _⟩ :: _) _ _); refine H.st (o := 14) rfl rP rfl rfl (cells_agg _) (by repeat (first | with_reducible exact Upd.head _ | apply Upd.tail)) (set_t1 _ _ _ _ _ _ _ _ _ _ _ _ _ _ _ _ ) (by rfl) (by exact one_of rfl) (by first | exact ble_le rfl | (change _ + 1 ≤ 12; omega) | (change _ + 1 ≤ 6; omega)) ?_; (intro w H; simp only [Act.put]))
    | ((with_reducible show wpList _ _ _ (⟨_, .store 72 _ _, _, _, _, _⟩ :: _) _ _); refine H.st (o := 28) rfl rP rfl rfl (cells_agg _) (by repeat (first | with_reducible exact Upd.head _ | apply Upd.tail)) (set_t2 _ _ _ _ _ _ _ _ _ _ _ _ _ _ _ _ ) (by rfl) (by exact one_of rfl) (by first | exact ble_le rfl | (change _ + 1 ≤ 12; omega) | (change _ + 1 ≤ 6; omega)) ?_; (intro w H; simp only [Act.put]))
    | ((with_reducible show wpList _ _ _ (⟨_, .store 27 _ _, _, _, _, _⟩ :: _) _ _); refine H.st rfl rB rfl rfl (cells_agg _) (by repeat (first | with_reducible exact Upd.head _ | apply Upd.tail)) (set_bits _ _ _ _) (by rfl) (by exact one_of rfl) (by first | exact ble_le rfl | (change _ + 1 ≤ 12; omega) | (change _ + 1 ≤ 6; omega)) ?_; (intro w H; simp only [Act.put]))
    | ((with_reducible show wpList _ _ _ (⟨_, .load 27 _, _, _, _, _⟩ :: _) _ _); refine H.ldo rfl rB rfl rfl hB (by first | with_reducible exact cat2_0 (bc _) (bc _) | with_reducible exact cat2_1 (bc _) (bc _) rfl) (by rfl) ?_; simp only [Act.put, List.setIfInBounds_toArray, List.set_cons_zero, List.set_cons_succ])
    | (go_at_call 9; ((with_reducible refine (cM _).mono ?_); rintro e w' ⟨rfl, rfl⟩))
    | (go_at_call 21; ((with_reducible refine (cF _).mono ?_); rintro e w' ⟨rfl, rfl⟩))
    | (go_at_call 91; ((with_reducible refine (cUa _ (HT.out.below H.below)).mono ?_); rintro e w ⟨rfl, hb⟩; replace H := H.call hb; clear hb))
    | (go_at_call 91; ((with_reducible refine (cUb _ (HT.out.below H.below)).mono ?_); rintro e w ⟨rfl, hb⟩; replace H := H.call hb; clear hb))
    )
      all_goals
        go_roundw
        case rel => exact Or.inr (Or.inl ⟨by go_num, H.sub (by repeat (first | with_reducible exact List.Sublist.refl _ | with_reducible apply List.Sublist.cons_cons | with_reducible apply List.Sublist.cons))⟩)
        case measure => simp [intOf]
    · go_wp2_with (first
    | ((with_reducible show wpList _ _ _ (⟨_, .box _ _, _, _, _, _⟩ :: _) _ _); refine H.box rfl rfl (cells_agg _) ?_; (intro g w H; simp only [Act.put, List.setIfInBounds_toArray, List.set_cons_zero, List.set_cons_succ]))
    | ((with_reducible show wpList _ _ _ (⟨_, .alloc 73, _, _, _, _⟩ :: _) _ _); refine H.mk0 rfl rQ rfl ?_; (intro g w H; simp only [Act.put, List.setIfInBounds_toArray, List.set_cons_zero, List.set_cons_succ]))
    | ((with_reducible show wpList _ _ _ (⟨_, .alloc 72, _, _, _, _⟩ :: _) _ _); refine H.mk0 rfl rP rfl ?_; (intro g w H; simp only [Act.put, List.setIfInBounds_toArray, List.set_cons_zero, List.set_cons_succ]))
    | ((with_reducible show wpList _ _ _ (⟨_, .alloc 27, _, _, _, _⟩ :: _) _ _); refine H.mk0 rfl rB rfl ?_; (intro g w H; simp only [Act.put, List.setIfInBounds_toArray, List.set_cons_zero, List.set_cons_succ]))
    | ((with_reducible show wpList _ _ _ (⟨_, .load 73 _, _, _, _, _⟩ :: _) _ _); refine H.ld rfl rQ rfl rfl (by repeat (first | with_reducible exact List.mem_cons_self | apply List.mem_cons_of_mem)) (by first | with_reducible exact ext_tri _ _ _ _ _ _ _ _ _ _ _ _) (by rfl) ?_; simp only [Act.put, List.setIfInBounds_toArray, List.set_cons_zero, List.set_cons_succ])
    | ((with_reducible show wpList _ _ _ (⟨_, .load 72 _, _, _, _, _⟩ :: _) _ _); refine H.ld rfl rP rfl rfl (by repeat (first | with_reducible exact List.mem_cons_self | apply List.mem_cons_of_mem)) (by first | with_reducible exact ext_parts _ _ _ _ | with_reducible exact ext_t0 _ _ _ _ _ _ _ _ _ _ _ _ | with_reducible exact ext_t1 _ _ _ _ _ _ _ _ _ _ _ _ | with_reducible exact ext_t2 _ _ _ _ _ _ _ _ _ _ _ _) (by rfl) ?_; simp only [Act.put, List.setIfInBounds_toArray, List.set_cons_zero, List.set_cons_succ])
    | ((with_reducible show wpList _ _ _ (⟨_, .load 27 _, _, _, _, _⟩ :: _) _ _); refine H.ld rfl rB rfl rfl (by repeat (first | with_reducible exact List.mem_cons_self | apply List.mem_cons_of_mem)) (by first | with_reducible exact ext_2 _ _) (by rfl) ?_; simp only [Act.put, List.setIfInBounds_toArray, List.set_cons_zero, List.set_cons_succ])
    | ((with_reducible show wpList _ _ _ (⟨_, .load 3 _, _, _, _, _⟩ :: _) _ _); refine H.ld1 rfl oI rfl rfl (by repeat (first | with_reducible exact List.mem_cons_self | apply List.mem_cons_of_mem)) (by first | with_reducible exact get_rough7 _ _ _ _ | with_reducible exact get_parts7 _ _ _ _ | with_reducible exact get_10 _) ?_; simp only [Act.put, List.setIfInBounds_toArray, List.set_cons_zero, List.set_cons_succ])
    | ((with_reducible show wpList _ _ _ (⟨_, .store 73 _ _, _, _, _, _⟩ :: _) _ _); refine H.st rfl rQ rfl rfl (cells_agg _) (by repeat (first | with_reducible exact Upd.head _ | apply Upd.tail)) (set_tri _ _ _ _ _ _ _ _ _ _ _ _ _ _ _ _ _ _ _ _ _ _ _ _ ) (by rfl) (by exact one_of rfl) (by first | exact ble_le rfl | (change _ + 1 ≤ 12; omega) | (change _ + 1 ≤ 6; omega)) ?_; (intro w H; simp only [Act.put]))
    | ((with_reducible show wpList _ _ _ (⟨_, .store 72 _ _, _, _, _, _⟩ :: _) _ _); refine H.st (o := 0) rfl rP rfl rfl (cells_agg _) (by repeat (first | with_reducible exact Upd.head _ | apply Upd.tail)) (set_pw _ _ _ _ _ _ _ _) (by rfl) (by exact one_of rfl) (by first | exact ble_le rfl | (change _ + 1 ≤ 12; omega) | (change _ + 1 ≤ 6; omega)) ?_; (intro w H; simp only [Act.put]))
    | ((with_reducible show wpList _ _ _ (⟨_, .store 72 _ _, _, _, _, _⟩ :: _) _ _); refine H.st (o := 0) rfl rP rfl rfl (cells_agg _) (by repeat (first | with_reducible exact Upd.head _ | apply Upd.tail)) (set_t0 _ _ _ _ _ _ _ _ _ _ _ _ _ _ _ _ ) (by rfl) (by exact one_of rfl) (by first | exact ble_le rfl | (change _ + 1 ≤ 12; omega) | (change _ + 1 ≤ 6; omega)) ?_; (intro w H; simp only [Act.put]))
    | ((with_reducible show wpList _ _ _ (⟨_, .store 72 _ _, _, _, _, _⟩ :: _) _ _); refine H.st (o := 14) rfl rP rfl rfl (cells_agg _) (by repeat (first | with_reducible exact Upd.head _ | apply Upd.tail)) (set_t1 _ _ _ _ _ _ _ _ _ _ _ _ _ _ _ _ ) (by rfl) (by exact one_of rfl) (by first | exact ble_le rfl | (change _ + 1 ≤ 12; omega) | (change _ + 1 ≤ 6; omega)) ?_; (intro w H; simp only [Act.put]))
    | ((with_reducible show wpList _ _ _ (⟨_, .store 72 _ _, _, _, _, _⟩ :: _) _ _); refine H.st (o := 28) rfl rP rfl rfl (cells_agg _) (by repeat (first | with_reducible exact Upd.head _ | apply Upd.tail)) (set_t2 _ _ _ _ _ _ _ _ _ _ _ _ _ _ _ _ ) (by rfl) (by exact one_of rfl) (by first | exact ble_le rfl | (change _ + 1 ≤ 12; omega) | (change _ + 1 ≤ 6; omega)) ?_; (intro w H; simp only [Act.put]))
    | ((with_reducible show wpList _ _ _ (⟨_, .store 27 _ _, _, _, _, _⟩ :: _) _ _); refine H.st rfl rB rfl rfl (cells_agg _) (by repeat (first | with_reducible exact Upd.head _ | apply Upd.tail)) (set_bits _ _ _ _) (by rfl) (by exact one_of rfl) (by first | exact ble_le rfl | (change _ + 1 ≤ 12; omega) | (change _ + 1 ≤ 6; omega)) ?_; (intro w H; simp only [Act.put]))
    | ((with_reducible show wpList _ _ _ (⟨_, .load 27 _, _, _, _, _⟩ :: _) _ _); refine H.ldo rfl rB rfl rfl hB (by first | with_reducible exact cat2_0 (bc _) (bc _) | with_reducible exact cat2_1 (bc _) (bc _) rfl) (by rfl) ?_; simp only [Act.put, List.setIfInBounds_toArray, List.set_cons_zero, List.set_cons_succ])
    | (go_at_call 9; ((with_reducible refine (cM _).mono ?_); rintro e w' ⟨rfl, rfl⟩))
    | (go_at_call 21; ((with_reducible refine (cF _).mono ?_); rintro e w' ⟨rfl, rfl⟩))
    | (go_at_call 91; ((with_reducible refine (cUa _ (HT.out.below H.below)).mono ?_); rintro e w ⟨rfl, hb⟩; replace H := H.call hb; clear hb))
    | (go_at_call 91; ((with_reducible refine (cUb _ (HT.out.below H.below)).mono ?_); rintro e w ⟨rfl, hb⟩; replace H := H.call hb; clear hb))
    )
      all_goals
        go_roundw
        case rel => exact Or.inr (Or.inr (⟨by go_num, H.sub (by repeat (first | with_reducible exact List.Sublist.refl _ | with_reducible apply List.Sublist.cons_cons | with_reducible apply List.Sublist.cons))⟩))
        case measure => simp [intOf]
    · go_wp2_with (first
    | ((with_reducible show wpList _ _ _ (⟨_, .box _ _, _, _, _, _⟩ :: _) _ _); refine H.box rfl rfl (cells_agg _) ?_; (intro g w H; simp only [Act.put, List.setIfInBounds_toArray, List.set_cons_zero, List.set_cons_succ]))
    | ((with_reducible show wpList _ _ _ (⟨_, .alloc 73, _, _, _, _⟩ :: _) _ _); refine H.mk0 rfl rQ rfl ?_; (intro g w H; simp only [Act.put, List.setIfInBounds_toArray, List.set_cons_zero, List.set_cons_succ]))
    | ((with_reducible show wpList _ _ _ (⟨_, .alloc 72, _, _, _, _⟩ :: _) _ _); refine H.mk0 rfl rP rfl ?_; (intro g w H; simp only [Act.put, List.setIfInBounds_toArray, List.set_cons_zero, List.set_cons_succ]))
    | ((with_reducible show wpList _ _ _ (⟨_, .alloc 27, _, _, _, _⟩ :: _) _ _); refine H.mk0 rfl rB rfl ?_; (intro g w H; simp only [Act.put, List.setIfInBounds_toArray, List.set_cons_zero, List.set_cons_succ]))
    | ((with_reducible show wpList _ _ _ (⟨_, .load 73 _, _, _, _, _⟩ :: _) _ _); refine H.ld rfl rQ rfl rfl (by repeat (first | with_reducible exact List.mem_cons_self | apply List.mem_cons_of_mem)) (by first | with_reducible exact ext_tri _ _ _ _ _ _ _ _ _ _ _ _) (by rfl) ?_; simp only [Act.put, List.setIfInBounds_toArray, List.set_cons_zero, List.set_cons_succ])
    | ((with_reducible show wpList _ _ _ (⟨_, .load 72 _, _, _, _, _⟩ :: _) _ _); refine H.ld rfl rP rfl rfl (by repeat (first | with_reducible exact List.mem_cons_self | apply List.mem_cons_of_mem)) (by first | with_reducible exact ext_parts _ _ _ _ | with_reducible exact ext_t0 _ _ _ _ _ _ _ _ _ _ _ _ | with_reducible exact ext_t1 _ _ _ _ _ _ _ _ _ _ _ _ | with_reducible exact ext_t2 _ _ _ _ _ _ _ _ _ _ _ _) (by rfl) ?_; simp only [Act.put, List.setIfInBounds_toArray, List.set_cons_zero, List.set_cons_succ])
    | ((with_reducible show wpList _ _ _ (⟨_, .load 27 _, _, _, _, _⟩ :: _) _ _); refine H.ld rfl rB rfl rfl (by repeat (first | with_reducible exact List.mem_cons_self | apply List.mem_cons_of_mem)) (by first | with_reducible exact ext_2 _ _) (by rfl) ?_; simp only [Act.put, List.setIfInBounds_toArray, List.set_cons_zero, List.set_cons_succ])
    | ((with_reducible show wpList _ _ _ (⟨_, .load 3 _, _, _, _, _⟩ :: _) _ _); refine H.ld1 rfl oI rfl rfl (by repeat (first | with_reducible exact List.mem_cons_self | apply List.mem_cons_of_mem)) (by first | with_reducible exact get_rough7 _ _ _ _ | with_reducible exact get_parts7 _ _ _ _ | with_reducible exact get_10 _) ?_; simp only [Act.put, List.setIfInBounds_toArray, List.set_cons_zero, List.set_cons_succ])
    | ((with_reducible show wpList _ _ _ (⟨_, .store 73 _ _, _, _, _, _⟩ :: _) _ _); refine H.st rfl rQ rfl rfl (cells_agg _) (by repeat (first | with_reducible exact Upd.head _ | apply Upd.tail)) (set_tri _ _ _ _ _ _ _ _ _ _ _ _ _ _ _ _ _ _ _ _ _ _ _ _ ) (by rfl) (by exact one_of rfl) (by first | exact ble_le rfl | (change _ + 1 ≤ 12; omega) | (change _ + 1 ≤ 6; omega)) ?_; (intro w H; simp only [Act.put]))
    | ((with_reducible show wpList _ _ _ (⟨_, .store 72 _ _, _, _, _, _⟩ :: _) _ _); refine H.st (o := 0) rfl rP rfl rfl (cells_agg _) (by repeat (first | with_reducible exact Upd.head _ | apply Upd.tail)) (set_pw _ _ _ _ _ _ _ _) (by rfl) (by exact one_of rfl) (by first | exact ble_le rfl | (change _ + 1 ≤ 12; omega) | (change _ + 1 ≤ 6; omega)) ?_; (intro w H; simp only [Act.put]))
    | ((with_reducible show wpList _ _ _ (⟨_, .store 72 _ _, _, _, _, _⟩ :: _) _ _); refine H.st (o := 0) rfl rP rfl rfl (cells_agg _) (by repeat (first | with_reducible exact Upd.head _ | apply Upd.tail)) (set_t0 _ _ _ _ _ _ _ _ _ _ _ _ _ _ _ _ ) (by rfl) (by exact one_of rfl) (by first | exact ble_le rfl | (change _ + 1 ≤ 12; omega) | (change _ + 1 ≤ 6; omega)) ?_; (intro w H; simp only [Act.put]))
    | ((with_reducible show wpList _ _ _ (⟨_, .store 72 _ _, _, _, _, _⟩ :: _) _ _); refine H.st (o := 14) rfl rP rfl rfl (cells_agg _) (by repeat (first | with_reducible exact Upd.head _ | apply Upd.tail)) (set_t1 _ _ _ _ _ _ _ _ _ _ _ _ _ _ _ _ ) (by rfl) (by exact one_of rfl) (by first | exact ble_le rfl | (change _ + 1 ≤ 12; omega) | (change _ + 1 ≤ 6; omega)) ?_; (intro w H; simp only [Act.put]))
    | ((with_reducible show wpList _ _ _ (⟨_, .store 72 _ _, _, _, _, _⟩ :: _) _ _); refine H.st (o := 28) rfl rP rfl rfl (cells_agg _) (by repeat (first | with_reducible exact Upd.head _ | apply Upd.tail)) (set_t2 _ _ _ _ _ _ _ _ _ _ _ _ _ _ _ _ ) (by rfl) (by exact one_of rfl) (by first | exact ble_le rfl | (change _ + 1 ≤ 12; omega) | (change _ + 1 ≤ 6; omega)) ?_; (intro w H; simp only [Act.put]))
    | ((with_reducible show wpList _ _ _ (⟨_, .store 27 _ _, _, _, _, _⟩ :: _) _ _); refine H.st rfl rB rfl rfl (cells_agg _) (by repeat (first | with_reducible exact Upd.head _ | apply Upd.tail)) (set_bits _ _ _ _) (by rfl) (by exact one_of rfl) (by first | exact ble_le rfl | (change _ + 1 ≤ 12; omega) | (change _ + 1 ≤ 6; omega)) ?_; (intro w H; simp only [Act.put]))
    | ((with_reducible show wpList _ _ _ (⟨_, .load 27 _, _, _, _, _⟩ :: _) _ _); refine H.ldo rfl rB rfl rfl hB (by first | with_reducible exact cat2_0 (bc _) (bc _) | with_reducible exact cat2_1 (bc _) (bc _) rfl) (by rfl) ?_; simp only [Act.put, List.setIfInBounds_toArray, List.set_cons_zero, List.set_cons_succ])
    | (go_at_call 9; ((with_reducible refine (cM _).mono ?_); rintro e w' ⟨rfl, rfl⟩))
    | (go_at_call 21; ((with_reducible refine (cF _).mono ?_); rintro e w' ⟨rfl, rfl⟩))
    | (go_at_call 91; ((with_reducible refine (cUa _ (HT.out.below H.below)).mono ?_); rintro e w ⟨rfl, hb⟩; replace H := H.call hb; clear hb))
    | (go_at_call 91; ((with_reducible refine (cUb _ (HT.out.below H.below)).mono ?_); rintro e w ⟨rfl, hb⟩; replace H := H.call hb; clear hb))
    )
      all_goals
        refine bodyPost_ret (results_ct rfl rfl (H.res rQ (by repeat (first | with_reducible exact List.mem_cons_self | apply List.mem_cons_of_mem)) (ext_tri _ _ _ _ _ _ _ _ _ _ _ _) (by rfl))) rfl ⟨?_, H.below⟩
        rfl
set_option maxHeartbeats 1600000 in
set_option maxRecDepth 100000 in
theorem mul_canon (f : Nat) (c0 s0 f0 : Nat) (x0 : Int) (c1 s1 f1 : Nat) (x1 : Int) (w0 : World) (g0 : Nat) (hB : Blk 72 w0 g0 (cat2 (parts c0 s0 x0 f0) (parts c1 s1 x1 f1))) (cN : ∀ w, Calls Tryd.prog 24 #[.int .u8 f] w fun e w' => e = .returned (BV (nanN f)) ∧ Below w.heap.size w w') :
    Calls Tryd.prog 69 #[.int .u8 f, .slice (some ⟨g0, 0, none⟩) 2 2] w0 fun e w' => e = .returned (.tuple #[BV (nanN f), .int .u8 (cond (decide (c0 = 8) || decide (c1 = 8)) 16 0), .int .i64 0]) ∧ Below w0.heap.size w0 w' := by
  have H := Own.start w0
  go_enter Tryd.func69, Tryd.ntmps69
  go_wp2_with (first
    | ((with_reducible show wpList _ _ _ (⟨_, .box _ _, _, _, _, _⟩ :: _) _ _); refine H.box rfl rfl (cells_agg _) ?_; (intro g w H; simp only [Act.put, List.setIfInBounds_toArray, List.set_cons_zero, List.set_cons_succ]))
    | ((with_reducible show wpList _ _ _ (⟨_, .alloc 27, _, _, _, _⟩ :: _) _ _); refine H.mk0 rfl rB rfl ?_; (intro g w H; simp only [Act.put, List.setIfInBounds_toArray, List.set_cons_zero, List.set_cons_succ]))
    | ((with_reducible show wpList _ _ _ (⟨_, .alloc 72, _, _, _, _⟩ :: _) _ _); refine H.mk0 rfl rP rfl ?_; (intro g w H; simp only [Act.put, List.setIfInBounds_toArray, List.set_cons_zero, List.set_cons_succ]))
    | ((with_reducible show wpList _ _ _ (⟨_, .load 72 _, _, _, _, _⟩ :: _) _ _); refine H.ld rfl rP rfl rfl (by repeat (first | with_reducible exact List.mem_cons_self | apply List.mem_cons_of_mem)) (by first | with_reducible exact ext_parts _ _ _ _ | with_reducible exact ext_t0 _ _ _ _ _ _ _ _ _ _ _ _ | with_reducible exact ext_t1 _ _ _ _ _ _ _ _ _ _ _ _ | with_reducible exact ext_t2 _ _ _ _ _ _ _ _ _ _ _ _) (by rfl) ?_; simp only [Act.put, List.setIfInBounds_toArray, List.set_cons_zero, List.set_cons_succ])
    | ((with_reducible show wpList _ _ _ (⟨_, .load 27 _, _, _, _, _⟩ :: _) _ _); refine H.ld rfl rB rfl rfl (by repeat (first | with_reducible exact List.mem_cons_self | apply List.mem_cons_of_mem)) (by first | with_reducible exact ext_2 _ _) (by rfl) ?_; simp only [Act.put, List.setIfInBounds_toArray, List.set_cons_zero, List.set_cons_succ])
    | ((with_reducible show wpList _ _ _ (⟨_, .load 62 _, _, _, _, _⟩ :: _) _ _); refine H.ld1 rfl oC rfl rfl (by repeat (first | with_reducible exact List.mem_cons_self | apply List.mem_cons_of_mem)) (by first | with_reducible exact get_parts0 _ _ _ _ | with_reducible exact get_10 _) ?_; simp only [Act.put, List.setIfInBounds_toArray, List.set_cons_zero, List.set_cons_succ])
    | ((with_reducible show wpList _ _ _ (⟨_, .load 3 _, _, _, _, _⟩ :: _) _ _); refine H.ld1 rfl oI rfl rfl (by repeat (first | with_reducible exact List.mem_cons_self | apply List.mem_cons_of_mem)) (by first | with_reducible exact get_rough7 _ _ _ _ | with_reducible exact get_parts7 _ _ _ _ | with_reducible exact get_10 _) ?_; simp only [Act.put, List.setIfInBounds_toArray, List.set_cons_zero, List.set_cons_succ])
    | ((with_reducible show wpList _ _ _ (⟨_, .store 72 _ _, _, _, _, _⟩ :: _) _ _); refine H.st rfl rP rfl rfl (cells_agg _) (by repeat (first | with_reducible exact Upd.head _ | apply Upd.tail)) (set_pw _ _ _ _ _ _ _ _) (by rfl) (by exact one_of rfl) (by first | exact ble_le rfl | (change _ + 1 ≤ 12; omega) | (change _ + 1 ≤ 6; omega)) ?_; (intro w H; simp only [Act.put]))
    | ((with_reducible show wpList _ _ _ (⟨_, .store 27 _ _, _, _, _, _⟩ :: _) _ _); refine H.st rfl rB rfl rfl (cells_agg _) (by repeat (first | with_reducible exact Upd.head _ | apply Upd.tail)) (set_bits _ _ _ _) (by rfl) (by exact one_of rfl) (by first | exact ble_le rfl | (change _ + 1 ≤ 12; omega) | (change _ + 1 ≤ 6; omega)) ?_; (intro w H; simp only [Act.put]))
    | ((with_reducible show wpList _ _ _ (⟨_, .load 72 _, _, _, _, _⟩ :: _) _ _); refine H.ldo rfl rP rfl rfl hB (by first | with_reducible exact cat2_0 (parts _ _ _ _) (parts _ _ _ _) | with_reducible exact cat2_1 (parts _ _ _ _) (parts _ _ _ _) rfl) (by rfl) ?_; simp only [Act.put, List.setIfInBounds_toArray, List.set_cons_zero, List.set_cons_succ])
    | (go_at_call 24; ((with_reducible refine (cN _).mono ?_); rintro e w ⟨rfl, hb⟩; replace H := H.call hb; clear hb))
    )
  go_loopw [7, 12] (fun v i wr => (i = .int .i64 0 ∧ v = .int .u8 0 ∧ Own w0 wr [(g, 27, #[.int .u64 0, .int .u64 0])]) ∨ (i = .int .i64 1 ∧ v = .int .u8 (cond (decide (c0 = 8)) 16 0) ∧ Own w0 wr [(g, 27, #[.int .u64 0, .int .u64 0])]) ∨ (i = .int .i64 2 ∧ v = .int .u8 (cond (decide (c0 = 8) || decide (c1 = 8)) 16 0) ∧ Own w0 wr [(g, 27, #[.int .u64 0, .int .u64 0])])) (fun _ i _ => 3 - (intOf i).toNat)
  case atStart => exact Or.inl ⟨rfl, rfl, H⟩
  case round =>
    clear H
    rcases hrel with ⟨rfl, rfl, H⟩ | ⟨rfl, rfl, H⟩ | ⟨rfl, rfl, H⟩
    · by_cases hc : c0 = 8
      · have e1 : ((c0 : Int) == 8) = true := int_eq_true c0 8 hc
        go_wp2_with (first
    | ((with_reducible show wpList _ _ _ (⟨_, .box _ _, _, _, _, _⟩ :: _) _ _); refine H.box rfl rfl (cells_agg _) ?_; (intro g w H; simp only [Act.put, List.setIfInBounds_toArray, List.set_cons_zero, List.set_cons_succ]))
    | ((with_reducible show wpList _ _ _ (⟨_, .alloc 27, _, _, _, _⟩ :: _) _ _); refine H.mk0 rfl rB rfl ?_; (intro g w H; simp only [Act.put, List.setIfInBounds_toArray, List.set_cons_zero, List.set_cons_succ]))
    | ((with_reducible show wpList _ _ _ (⟨_, .alloc 72, _, _, _, _⟩ :: _) _ _); refine H.mk0 rfl rP rfl ?_; (intro g w H; simp only [Act.put, List.setIfInBounds_toArray, List.set_cons_zero, List.set_cons_succ]))
    | ((with_reducible show wpList _ _ _ (⟨_, .load 72 _, _, _, _, _⟩ :: _) _ _); refine H.ld rfl rP rfl rfl (by repeat (first | with_reducible exact List.mem_cons_self | apply List.mem_cons_of_mem)) (by first | with_reducible exact ext_parts _ _ _ _ | with_reducible exact ext_t0 _ _ _ _ _ _ _ _ _ _ _ _ | with_reducible exact ext_t1 _ _ _ _ _ _ _ _ _ _ _ _ | with_reducible exact ext_t2 _ _ _ _ _ _ _ _ _ _ _ _) (by rfl) ?_; simp only [Act.put, List.setIfInBounds_toArray, List.set_cons_zero, List.set_cons_succ])
    | ((with_reducible show wpList _ _ _ (⟨_, .load 27 _, _, _, _, _⟩ :: _) _ _); refine H.ld rfl rB rfl rfl (by repeat (first | with_reducible exact List.mem_cons_self | apply List.mem_cons_of_mem)) (by first | with_reducible exact ext_2 _ _) (by rfl) ?_; simp only [Act.put, List.setIfInBounds_toArray, List.set_cons_zero, List.set_cons_succ])
    | ((with_reducible show wpList _ _ _ (⟨_, .load 62 _, _, _, _, _⟩ :: _) _ _); refine H.ld1 rfl oC rfl rfl (by repeat (first | with_reducible exact List.mem_cons_self | apply List.mem_cons_of_mem)) (by first | with_reducible exact get_parts0 _ _ _ _ | with_reducible exact get_10 _) ?_; simp only [Act.put, List.setIfInBounds_toArray, List.set_cons_zero, List.set_cons_succ])
    | ((with_reducible show wpList _ _ _ (⟨_, .load 3 _, _, _, _, _⟩ :: _) _ _); refine H.ld1 rfl oI rfl rfl (by repeat (first | with_reducible exact List.mem_cons_self | apply List.mem_cons_of_mem)) (by first | with_reducible exact get_rough7 _ _ _ _ | with_reducible exact get_parts7 _ _ _ _ | with_reducible exact get_10 _) ?_; simp only [Act.put, List.setIfInBounds_toArray, List.set_cons_zero, List.set_cons_succ])
    | ((with_reducible show wpList _ _ _ (⟨_, .store 72 _ _, _, _, _, _⟩ :: _) _ _); refine H.st rfl rP rfl rfl (cells_agg _) (by repeat (first | with_reducible exact Upd.head _ | apply Upd.tail)) (set_pw _ _ _ _ _ _ _ _) (by rfl) (by exact one_of rfl) (by first | exact ble_le rfl | (change _ + 1 ≤ 12; omega) | (change _ + 1 ≤ 6; omega)) ?_; (intro w H; simp only [Act.put]))
    | ((with_reducible show wpList _ _ _ (⟨_, .store 27 _ _, _, _, _, _⟩ :: _) _ _); refine H.st rfl rB rfl rfl (cells_agg _) (by repeat (first | with_reducible exact Upd.head _ | apply Upd.tail)) (set_bits _ _ _ _) (by rfl) (by exact one_of rfl) (by first | exact ble_le rfl | (change _ + 1 ≤ 12; omega) | (change _ + 1 ≤ 6; omega)) ?_; (intro w H; simp only [Act.put]))
    | ((with_reducible show wpList _ _ _ (⟨_, .load 72 _, _, _, _, _⟩ :: _) _ _); refine H.ldo rfl rP rfl rfl hB (by first | with_reducible exact cat2_0 (parts _ _ _ _) (parts _ _ _ _) | with_reducible exact cat2_1 (parts _ _ _ _) (parts _ _ _ _) rfl) (by rfl) ?_; simp only [Act.put, List.setIfInBounds_toArray, List.set_cons_zero, List.set_cons_succ])
    | (go_at_call 24; ((with_reducible refine (cN _).mono ?_); rintro e w ⟨rfl, hb⟩; replace H := H.call hb; clear hb))
    )
        all_goals
          go_roundw
          case rel => exact Or.inr (Or.inl ⟨by go_num, (by with_reducible exact flag_on0 _ (by rw [decide_eq_true hc])), H.sub (by repeat (first | with_reducible exact List.Sublist.refl _ | with_reducible apply List.Sublist.cons_cons | with_reducible apply List.Sublist.cons))⟩)
          case measure => simp [intOf]
      · have e1 : ((c0 : Int) == 8) = false := int_eq_false c0 8 hc
        go_wp2_with (first
    | ((with_reducible show wpList _ _ _ (⟨_, .box _ _, _, _, _, _⟩ :: _) _ _); refine H.box rfl rfl (cells_agg _) ?_; (intro g w H; simp only [Act.put, List.setIfInBounds_toArray, List.set_cons_zero, List.set_cons_succ]))
    | ((with_reducible show wpList _ _ _ (⟨_, .alloc 27, _, _, _, _⟩ :: _) _ _); refine H.mk0 rfl rB rfl ?_; (intro g w H; simp only [Act.put, List.setIfInBounds_toArray, List.set_cons_zero, List.set_cons_succ]))
    | ((with_reducible show wpList _ _ _ (⟨_, .alloc 72, _, _, _, _⟩ :: _) _ _); refine H.mk0 rfl rP rfl ?_; (intro g w H; simp only [Act.put, List.setIfInBounds_toArray, List.set_cons_zero, List.set_cons_succ]))
    | ((with_reducible show wpList _ _ _ (⟨_, .load 72 _, _, _, _, _⟩ :: _) _ _); refine H.ld rfl rP rfl rfl (by repeat (first | with_reducible exact List.mem_cons_self | apply List.mem_cons_of_mem)) (by first | with_reducible exact ext_parts _ _ _ _ | with_reducible exact ext_t0 _ _ _ _ _ _ _ _ _ _ _ _ | with_reducible exact ext_t1 _ _ _ _ _ _ _ _ _ _ _ _ | with_reducible exact ext_t2 _ _ _ _ _ _ _ _ _ _ _ _) (by rfl) ?_; simp only [Act.put, List.setIfInBounds_toArray, List.set_cons_zero, List.set_cons_succ])
    | ((with_reducible show wpList _ _ _ (⟨_, .load 27 _, _, _, _, _⟩ :: _) _ _); refine H.ld rfl rB rfl rfl (by repeat (first | with_reducible exact List.mem_cons_self | apply List.mem_cons_of_mem)) (by first | with_reducible exact ext_2 _ _) (by rfl) ?_; simp only [Act.put, List.setIfInBounds_toArray, List.set_cons_zero, List.set_cons_succ])
    | ((with_reducible show wpList _ _ _ (⟨_, .load 62 _, _, _, _, _⟩ :: _) _ _); refine H.ld1 rfl oC rfl rfl (by repeat (first | with_reducible exact List.mem_cons_self | apply List.mem_cons_of_mem)) (by first | with_reducible exact get_parts0 _ _ _ _ | with_reducible exact get_10 _) ?_; simp only [Act.put, List.setIfInBounds_toArray, List.set_cons_zero, List.set_cons_succ])
    | ((with_reducible show wpList _ _ _ (⟨_, .load 3 _, _, _, _, _⟩ :: _) _ _); refine H.ld1 rfl oI rfl rfl (by repeat (first | with_reducible exact List.mem_cons_self | apply List.mem_cons_of_mem)) (by first | with_reducible exact get_rough7 _ _ _ _ | with_reducible exact get_parts7 _ _ _ _ | with_reducible exact get_10 _) ?_; simp only [Act.put, List.setIfInBounds_toArray, List.set_cons_zero, List.set_cons_succ])
    | ((with_reducible show wpList _ _ _ (⟨_, .store 72 _ _, _, _, _, _⟩ :: _) _ _); refine H.st rfl rP rfl rfl (cells_agg _) (by repeat (first | with_reducible exact Upd.head _ | apply Upd.tail)) (set_pw _ _ _ _ _ _ _ _) (by rfl) (by exact one_of rfl) (by first | exact ble_le rfl | (change _ + 1 ≤ 12; omega) | (change _ + 1 ≤ 6; omega)) ?_; (intro w H; simp only [Act.put]))
    | ((with_reducible show wpList _ _ _ (⟨_, .store 27 _ _, _, _, _, _⟩ :: _) _ _); refine H.st rfl rB rfl rfl (cells_agg _) (by repeat (first | with_reducible exact Upd.head _ | apply Upd.tail)) (set_bits _ _ _ _) (by rfl) (by exact one_of rfl) (by first | exact ble_le rfl | (change _ + 1 ≤ 12; omega) | (change _ + 1 ≤ 6; omega)) ?_; (intro w H; simp only [Act.put]))
    | ((with_reducible show wpList _ _ _ (⟨_, .load 72 _, _, _, _, _⟩ :: _) _ _); refine H.ldo rfl rP rfl rfl hB (by first | with_reducible exact cat2_0 (parts _ _ _ _) (parts _ _ _ _) | with_reducible exact cat2_1 (parts _ _ _ _) (parts _ _ _ _) rfl) (by rfl) ?_; simp only [Act.put, List.setIfInBounds_toArray, List.set_cons_zero, List.set_cons_succ])
    | (go_at_call 24; ((with_reducible refine (cN _).mono ?_); rintro e w ⟨rfl, hb⟩; replace H := H.call hb; clear hb))
    )
        all_goals
          go_roundw
          case rel => exact Or.inr (Or.inl ⟨by go_num, (by with_reducible exact flag_off0 _ (by rw [decide_eq_false hc])), H.sub (by repeat (first | with_reducible exact List.Sublist.refl _ | with_reducible apply List.Sublist.cons_cons | with_reducible apply List.Sublist.cons))⟩)
          case measure => simp [intOf]
    · by_cases hc : c1 = 8
      · have e1 : ((c1 : Int) == 8) = true := int_eq_true c1 8 hc
        go_wp2_with (first
    | ((with_reducible show wpList _ _ _ (⟨_, .box _ _, _, _, _, _⟩ :: _) _ _); refine H.box rfl rfl (cells_agg _) ?_; (intro g w H; simp only [Act.put, List.setIfInBounds_toArray, List.set_cons_zero, List.set_cons_succ]))
    | ((with_reducible show wpList _ _ _ (⟨_, .alloc 27, _, _, _, _⟩ :: _) _ _); refine H.mk0 rfl rB rfl ?_; (intro g w H; simp only [Act.put, List.setIfInBounds_toArray, List.set_cons_zero, List.set_cons_succ]))
    | ((with_reducible show wpList _ _ _ (⟨_, .alloc 72, _, _, _, _⟩ :: _) _ _); refine H.mk0 rfl rP rfl ?_; (intro g w H; simp only [Act.put, List.setIfInBounds_toArray, List.set_cons_zero, List.set_cons_succ]))
    | ((with_reducible show wpList _ _ _ (⟨_, .load 72 _, _, _, _, _⟩ :: _) _ _); refine H.ld rfl rP rfl rfl (by repeat (first | with_reducible exact List.mem_cons_self | apply List.mem_cons_of_mem)) (by first | with_reducible exact ext_parts _ _ _ _ | with_reducible exact ext_t0 _ _ _ _ _ _ _ _ _ _ _ _ | with_reducible exact ext_t1 _ _ _ _ _ _ _ _ _ _ _ _ | with_reducible exact ext_t2 _ _ _ _ _ _ _ _ _ _ _ _) (by rfl) ?_; simp only [Act.put, List.setIfInBounds_toArray, List.set_cons_zero, List.set_cons_succ])
    | ((with_reducible show wpList _ _ _ (⟨_, .load 27 _, _, _, _, _⟩ :: _) _ _); refine H.ld rfl rB rfl rfl (by repeat (first | with_reducible exact List.mem_cons_self | apply List.mem_cons_of_mem)) (by first | with_reducible exact ext_2 _ _) (by rfl) ?_; simp only [Act.put, List.setIfInBounds_toArray, List.set_cons_zero, List.set_cons_succ])
    | ((with_reducible show wpList _ _ _ (⟨_, .load 62 _, _, _, _, _⟩ :: _) _ _); refine H.ld1 rfl oC rfl rfl (by repeat (first | with_reducible exact List.mem_cons_self | apply List.mem_cons_of_mem)) (by first | with_reducible exact get_parts0 _ _ _ _ | with_reducible exact get_10 _) ?_; simp only [Act.put, List.setIfInBounds_toArray, List.set_cons_zero, List.set_cons_succ])
    | ((with_reducible show wpList _ _ _ (⟨_, .load 3 _, _, _, _, _⟩ :: _) _ _); refine H.ld1 rfl oI rfl rfl (by repeat (first | with_reducible exact List.mem_cons_self | apply List.mem_cons_of_mem)) (by first | with_reducible exact get_rough7 _ _ _ _ | with_reducible exact get_parts7 _ _ _ _ | with_reducible exact get_10 _) ?_; simp only [Act.put, List.setIfInBounds_toArray, List.set_cons_zero, List.set_cons_succ])
    | ((with_reducible show wpList _ _ _ (⟨_, .store 72 _ _, _, _, _, _⟩ :: _) _ _); refine H.st rfl rP rfl rfl (cells_agg _) (by repeat (first | with_reducible exact Upd.head _ | apply Upd.tail)) (set_pw _ _ _ _ _ _ _ _) (by rfl) (by exact one_of rfl) (by first | exact ble_le rfl | (change _ + 1 ≤ 12; omega) | (change _ + 1 ≤ 6; omega)) ?_; (intro w H; simp only [Act.put]))
    | ((with_reducible show wpList _ _ _ (⟨_, .store 27 _ _, _, _, _, _⟩ :: _) _ _); refine H.st rfl rB rfl rfl (cells_agg _) (by repeat (first | with_reducible exact Upd.head _ | apply Upd.tail)) (set_bits _ _ _ _) (by rfl) (by exact one_of rfl) (by first | exact ble_le rfl | (change _ + 1 ≤ 12; omega) | (change _ + 1 ≤ 6; omega)) ?_; (intro w H; simp only [Act.put]))
    | ((with_reducible show wpList _ _ _ (⟨_, .load 72 _, _, _, _, _⟩ :: _) _ _); refine H.ldo rfl rP rfl rfl hB (by first | with_reducible exact cat2_0 (parts _ _ _ _) (parts _ _ _ _) | with_reducible exact cat2_1 (parts _ _ _ _) (parts _ _ _ _) rfl) (by rfl) ?_; simp only [Act.put, List.setIfInBounds_toArray, List.set_cons_zero, List.set_cons_succ])
    | (go_at_call 24; ((with_reducible refine (cN _).mono ?_); rintro e w ⟨rfl, hb⟩; replace H := H.call hb; clear hb))
    )
        all_goals
          go_roundw
          case rel => exact Or.inr (Or.inr (⟨by go_num, (by with_reducible exact flag_on _ _ (by rw [decide_eq_true hc]; simp)), H.sub (by repeat (first | with_reducible exact List.Sublist.refl _ | with_reducible apply List.Sublist.cons_cons | with_reducible apply List.Sublist.cons))⟩))
          case measure => simp [intOf]
      · have e1 : ((c1 : Int) == 8) = false := int_eq_false c1 8 hc
        go_wp2_with (first
    | ((with_reducible show wpList _ _ _ (⟨_, .box _ _, _, _, _, _⟩ :: _) _ _); refine H.box rfl rfl (cells_agg _) ?_; (intro g w H; simp only [Act.put, List.setIfInBounds_toArray, List.set_cons_zero, List.set_cons_succ]))
    | ((with_reducible show wpList _ _ _ (⟨_, .alloc 27, _, _, _, _⟩ :: _) _ _); refine H.mk0 rfl rB rfl ?_; (intro g w H; simp only [Act.put, List.setIfInBounds_toArray, List.set_cons_zero, List.set_cons_succ]))
    | ((with_reducible show wpList _ _ _ (⟨_, .alloc 72, _, _, _, _⟩ :: _) _ _); refine H.mk0 rfl rP rfl ?_; (intro g w H; simp only [Act.put, List.setIfInBounds_toArray, List.set_cons_zero, List.set_cons_succ]))
    | ((with_reducible show wpList _ _ _ (⟨_, .load 72 _, _, _, _, _⟩ :: _) _ _); refine H.ld rfl rP rfl rfl (by repeat (first | with_reducible exact List.mem_cons_self | apply List.mem_cons_of_mem)) (by first | with_reducible exact ext_parts _ _ _ _ | with_reducible exact ext_t0 _ _ _ _ _ _ _ _ _ _ _ _ | with_reducible exact ext_t1 _ _ _ _ _ _ _ _ _ _ _ _ | with_reducible exact ext_t2 _ _ _ _ _ _ _ _ _ _ _ _) (by rfl) ?_; simp only [Act.put, List.setIfInBounds_toArray, List.set_cons_zero, List.set_cons_succ])
    | ((with_reducible show wpList _ _ _ (⟨_, .load 27 _, _, _, _, _⟩ :: _) _ _); refine H.ld rfl rB rfl rfl (by repeat (first | with_reducible exact List.mem_cons_self | apply List.mem_cons_of_mem)) (by first | with_reducible exact ext_2 _ _) (by rfl) ?_; simp only [Act.put, List.setIfInBounds_toArray, List.set_cons_zero, List.set_cons_succ])
    | ((with_reducible show wpList _ _ _ (⟨_, .load 62 _, _, _, _, _⟩ :: _) _ _); refine H.ld1 rfl oC rfl rfl (by repeat (first | with_reducible exact List.mem_cons_self | apply List.mem_cons_of_mem)) (by first | with_reducible exact get_parts0 _ _ _ _ | with_reducible exact get_10 _) ?_; simp only [Act.put, List.setIfInBounds_toArray, List.set_cons_zero, List.set_cons_succ])
    | ((with_reducible show wpList _ _ _ (⟨_, .load 3 _, _, _, _, _⟩ :: _) _ _); refine H.ld1 rfl oI rfl rfl (by repeat (first | with_reducible exact List.mem_cons_self | apply List.mem_cons_of_mem)) (by first | with_reducible exact get_rough7 _ _ _ _ | with_reducible exact get_parts7 _ _ _ _ | with_reducible exact get_10 _) ?_; simp only [Act.put, List.setIfInBounds_toArray, List.set_cons_zero, List.set_cons_succ])
    | ((with_reducible show wpList _ _ _ (⟨_, .store 72 _ _, _, _, _, _⟩ :: _) _ _); refine H.st rfl rP rfl rfl (cells_agg _) (by repeat (first | with_reducible exact Upd.head _ | apply Upd.tail)) (set_pw _ _ _ _ _ _ _ _) (by rfl) (by exact one_of rfl) (by first | exact ble_le rfl | (change _ + 1 ≤ 12; omega) | (change _ + 1 ≤ 6; omega)) ?_; (intro w H; simp only [Act.put]))
    | ((with_reducible show wpList _ _ _ (⟨_, .store 27 _ _, _, _, _, _⟩ :: _) _ _); refine H.st rfl rB rfl rfl (cells_agg _) (by repeat (first | with_reducible exact Upd.head _ | apply Upd.tail)) (set_bits _ _ _ _) (by rfl) (by exact one_of rfl) (by first | exact ble_le rfl | (change _ + 1 ≤ 12; omega) | (change _ + 1 ≤ 6; omega)) ?_; (intro w H; simp only [Act.put]))
    | ((with_reducible show wpList _ _ _ (⟨_, .load 72 _, _, _, _, _⟩ :: _) _ _); refine H.ldo rfl rP rfl rfl hB (by first | with_reducible exact cat2_0 (parts _ _ _ _) (parts _ _ _ _) | with_reducible exact cat2_1 (parts _ _ _ _) (parts _ _ _ _) rfl) (by rfl) ?_; simp only [Act.put, List.setIfInBounds_toArray, List.set_cons_zero, List.set_cons_succ])
    | (go_at_call 24; ((with_reducible refine (cN _).mono ?_); rintro e w ⟨rfl, hb⟩; replace H := H.call hb; clear hb))
    )
        all_goals
          go_roundw
          case rel => exact Or.inr (Or.inr (⟨by go_num, (by with_reducible exact flag_off _ _ (by rw [decide_eq_false hc]; simp)), H.sub (by repeat (first | with_reducible exact List.Sublist.refl _ | with_reducible apply List.Sublist.cons_cons | with_reducible apply List.Sublist.cons))⟩))
          case measure => simp [intOf]
    · go_wp2_with (first
    | ((with_reducible show wpList _ _ _ (⟨_, .box _ _, _, _, _, _⟩ :: _) _ _); refine H.box rfl rfl (cells_agg _) ?_; (intro g w H; simp only [Act.put, List.setIfInBounds_toArray, List.set_cons_zero, List.set_cons_succ]))
    | ((with_reducible show wpList _ _ _ (⟨_, .alloc 27, _, _, _, _⟩ :: _) _ _); refine H.mk0 rfl rB rfl ?_; (intro g w H; simp only [Act.put, List.setIfInBounds_toArray, List.set_cons_zero, List.set_cons_succ]))
    | ((with_reducible show wpList _ _ _ (⟨_, .alloc 72, _, _, _, _⟩ :: _) _ _); refine H.mk0 rfl rP rfl ?_; (intro g w H; simp only [Act.put, List.setIfInBounds_toArray, List.set_cons_zero, List.set_cons_succ]))
    | ((with_reducible show wpList _ _ _ (⟨_, .load 72 _, _, _, _, _⟩ :: _) _ _); refine H.ld rfl rP rfl rfl (by repeat (first | with_reducible exact List.mem_cons_self | apply List.mem_cons_of_mem)) (by first | with_reducible exact ext_parts _ _ _ _ | with_reducible exact ext_t0 _ _ _ _ _ _ _ _ _ _ _ _ | with_reducible exact ext_t1 _ _ _ _ _ _ _ _ _ _ _ _ | with_reducible exact ext_t2 _ _ _ _ _ _ _ _ _ _ _ _) (by rfl) ?_; simp only [Act.put, List.setIfInBounds_toArray, List.set_cons_zero, List.set_cons_succ])
    | ((with_reducible show wpList _ _ _ (⟨_, .load 27 _, _, _, _, _⟩ :: _) _ _); refine H.ld rfl rB rfl rfl (by repeat (first | with_reducible exact List.mem_cons_self | apply List.mem_cons_of_mem)) (by first | with_reducible exact ext_2 _ _) (by rfl) ?_; simp only [Act.put, List.setIfInBounds_toArray, List.set_cons_zero, List.set_cons_succ])
    | ((with_reducible show wpList _ _ _ (⟨_, .load 62 _, _, _, _, _⟩ :: _) _ _); refine H.ld1 rfl oC rfl rfl (by repeat (first | with_reducible exact List.mem_cons_self | apply List.mem_cons_of_mem)) (by first | with_reducible exact get_parts0 _ _ _ _ | with_reducible exact get_10 _) ?_; simp only [Act.put, List.setIfInBounds_toArray, List.set_cons_zero, List.set_cons_succ])
    | ((with_reducible show wpList _ _ _ (⟨_, .load 3 _, _, _, _, _⟩ :: _) _ _); refine H.ld1 rfl oI rfl rfl (by repeat (first | with_reducible exact List.mem_cons_self | apply List.mem_cons_of_mem)) (by first | with_reducible exact get_rough7 _ _ _ _ | with_reducible exact get_parts7 _ _ _ _ | with_reducible exact get_10 _) ?_; simp only [Act.put, List.setIfInBounds_toArray, List.set_cons_zero, List.set_cons_succ])
    | ((with_reducible show wpList _ _ _ (⟨_, .store 72 _ _, _, _, _, _⟩ :: _) _ _); refine H.st rfl rP rfl rfl (cells_agg _) (by repeat (first | with_reducible exact Upd.head _ | apply Upd.tail)) (set_pw _ _ _ _ _ _ _ _) (by rfl) (by exact one_of rfl) (by first | exact ble_le rfl | (change _ + 1 ≤ 12; omega) | (change _ + 1 ≤ 6; omega)) ?_; (intro w H; simp only [Act.put]))
    | ((with_reducible show wpList _ _ _ (⟨_, .store 27 _ _, _, _, _, _⟩ :: _) _ _); refine H.st rfl rB rfl rfl (cells_agg _) (by repeat (first | with_reducible exact Upd.head _ | apply Upd.tail)) (set_bits _ _ _ _) (by rfl) (by exact one_of rfl) (by first | exact ble_le rfl | (change _ + 1 ≤ 12; omega) | (change _ + 1 ≤ 6; omega)) ?_; (intro w H; simp only [Act.put]))
    | ((with_reducible show wpList _ _ _ (⟨_, .load 72 _, _, _, _, _⟩ :: _) _ _); refine H.ldo rfl rP rfl rfl hB (by first | with_reducible exact cat2_0 (parts _ _ _ _) (parts _ _ _ _) | with_reducible exact cat2_1 (parts _ _ _ _) (parts _ _ _ _) rfl) (by rfl) ?_; simp only [Act.put, List.setIfInBounds_toArray, List.set_cons_zero, List.set_cons_succ])
    | (go_at_call 24; ((with_reducible refine (cN _).mono ?_); rintro e w ⟨rfl, hb⟩; replace H := H.call hb; clear hb))
    )
      all_goals
        refine bodyPost_ret (results_ctt rfl rfl (H.res rB (by repeat (first | with_reducible exact List.mem_cons_self | apply List.mem_cons_of_mem)) (by first | with_reducible exact ext_2 _ _) (by rfl))) rfl ⟨?_, H.below⟩
        rfl
end Go.Proofs.YtdcgcjmajacgiaaDoor

namespace Go.Proofs.YtdcgcjmajacgiaaDoor
open Go.RowKit
theorem odd_lim (n : Nat) : (Go.bits .and .u64 (limb n 0) 1 == 1) = decide (n % 2 = 1) := by
  have h1 : (1 : Int) = limb 1 0 := rfl
  rw [h1, limb_and, show n &&& 1 = n % 2 from Nat.and_one_is_mod n, ← h1]
  unfold limb limbN
  rw [Nat.mul_zero, Nat.pow_zero, Nat.div_one, Nat.mod_eq_of_lt (by omega), Bool.eq_iff_iff, beq_iff_eq, decide_eq_true_iff]
  omega
theorem halfN_in (a n : Nat) : halfN a n = -1 ∨ halfN a n = 0 ∨ halfN a n = 1 := by
  unfold halfN
  split
  · simp
  · split
    · split <;> simp
    · simp
theorem roundGrid_any (m s : Nat) (e at_ : Int) (neg mo : Bool) (w : World) (hT : Tab w) (hm : m < 256) (hs : s < top6) (h1 : -2000000 ≤ e) (h2 : e ≤ 2000000) (h3 : -2000000 ≤ at_) (h4 : at_ ≤ 2000000) (hf : e - at_ ≤ 384) :
    Calls Tryd.prog 88 #[.int .u8 m, RV neg s e mo, .int .i64 at_] w fun e' w' => e' = .returned (.tuple #[W (gridN m neg s e mo at_).1, .bool (gridN m neg s e mo at_).2]) ∧ Below w.heap.size w w' := by
  by_cases hn : at_ ≤ e
  · have cL := fun w => wideLeft_any s (-(at_ - e)) w hs
    have hc : clip (-(at_ - e)) = (e - at_).toNat := by unfold clip; omega
    rw [hc] at cL
    have := roundGrid_up m s _ e at_ (at_ - e) neg mo _ w hT h1 h2 h3 h4 rfl (by omega) cL
    simp only [gridN, if_pos hn]
    exact this
  · have cC := fun w hT => jamCut_any s (at_ - e) w hs hT
    have hin := halfN_in s (at_ - e).toNat
    have cR := fun (half : Int) (hh : half = -1 ∨ half = 0 ∨ half = 1) (ex : Bool) w => roundUp_any m neg (Go.bits .and .u64 (limb (s / 2 ^ (at_ - e).toNat) 0) 1 == 1) half ex w hm hh
    simp only [gridN, if_neg hn]
    cases mo with
    | false =>
      simp only [Bool.false_and, cond_false, Bool.not_false, Bool.and_true]
      have cR' := cR _ hin (decide (s % 2 ^ (at_ - e).toNat = 0))
      rw [← odd_lim]
      cases hu : upB m neg (Go.bits .and .u64 (limb (s / 2 ^ (at_ - e).toNat) 0) 1 == 1) (halfN s (at_ - e).toNat) (decide (s % 2 ^ (at_ - e).toNat = 0)) with
      | true =>
        rw [hu] at cR'
        exact roundGrid_f_t m s _ e at_ (at_ - e) _ neg _ w hT h1 h2 h3 h4 rfl (by omega) cC cR'
      | false =>
        rw [hu] at cR'
        exact roundGrid_f_f m s _ e at_ (at_ - e) _ neg _ w hT h1 h2 h3 h4 rfl (by omega) cC cR'
    | true =>
      simp only [Bool.true_and, Bool.not_true, Bool.and_false]
      rw [← odd_lim]
      by_cases hz : halfN s (at_ - e).toNat = 0
      · have hz' : (halfN s (at_ - e).toNat == 0) = true := by rw [hz]; rfl
        have cR' := cR 1 (by omega) false
        rw [decide_eq_true hz, cond_true]
        cases hu : upB m neg (Go.bits .and .u64 (limb (s / 2 ^ (at_ - e).toNat) 0) 1 == 1) 1 false with
        | true =>
          rw [hu] at cR'
          exact roundGrid_tz_t m s _ e at_ (at_ - e) _ neg _ w hT h1 h2 h3 h4 rfl (by omega) hz' cC cR'
        | false =>
          rw [hu] at cR'
          exact roundGrid_tz_f m s _ e at_ (at_ - e) _ neg _ w hT h1 h2 h3 h4 rfl (by omega) hz' cC cR'
      · have hz' : (halfN s (at_ - e).toNat == 0) = false := by rw [beq_eq_false_iff_ne]; exact hz
        have cR' := cR _ hin false
        rw [decide_eq_false hz, cond_false]
        cases hu : upB m neg (Go.bits .and .u64 (limb (s / 2 ^ (at_ - e).toNat) 0) 1 == 1) (halfN s (at_ - e).toNat) false with
        | true =>
          rw [hu] at cR'
          exact roundGrid_tn_t m s _ e at_ (at_ - e) _ neg _ w hT h1 h2 h3 h4 rfl (by omega) hz' cC cR'
        | false =>
          rw [hu] at cR'
          exact roundGrid_tn_f m s _ e at_ (at_ - e) _ neg _ w hT h1 h2 h3 h4 rfl (by omega) hz' cC cR'
end Go.Proofs.YtdcgcjmajacgiaaDoor

namespace Go.Proofs.YtdcgcjmajacgiaaDoor
open Go.RowKit
set_option maxHeartbeats 1600000 in
set_option maxRecDepth 100000 in
theorem roundPack_x_f (f m s p l E k lk z n1 n2 n3 bb : Nat) (e top lo : Int) (neg lo1 lo2 lo3 : Bool) (w : World) (hT : Tab w) (hp : p ≤ 113) (h1 : -1048576 ≤ e) (h2 : e ≤ 1048576) (hl4 : l ≤ 384) (cP : ∀ w, Calls Tryd.prog 65 #[.int .u8 f] w fun e w' => e = .returned (.int .i64 (p : Nat)) ∧ Below w.heap.size w w') (cR : ∀ w, Calls Tryd.prog 85 #[.int .u8 f, .int .u8 m] w fun e w' => e = .returned (.bool true) ∧ w = w') (cL : ∀ w, Calls Tryd.prog 78 #[W s] w fun e w' => e = .returned (.int .i64 (l : Nat)) ∧ Below w.heap.size w w') (hs : s < top6) (hs0 : decide (s = 0) = false) (htop : (l : Int) - 1 + e = top) (l1 : -20000 ≤ lo) (l2 : lo ≤ 20000) (t1 : -1100000 ≤ top) (t2 : top ≤ 1100000) (hE : E ≤ 16383) (cE : ∀ w, Calls Tryd.prog 86 #[.int .u8 f] w fun e w' => e = .returned (.int .i64 lo) ∧ Below w.heap.size w w') (cX : ∀ w, Calls Tryd.prog 55 #[.int .u8 f] w fun e w' => e = .returned (.int .i64 (E : Nat)) ∧ Below w.heap.size w w') (hlk : lk ≤ 384) (hov : ¬ (E : Int) < top) (hov2 : ¬ (E : Int) < (lk : Int) - 1 + (max top lo - (p : Int) + 1)) (cG : ∀ w, Tab w → Calls Tryd.prog 88 #[.int .u8 m, RV neg s e false, .int .i64 (max top lo - (p : Int) + 1)] w fun e w' => e = .returned (.tuple #[W k, .bool true]) ∧ Below w.heap.size w w') (cK : ∀ w, Calls Tryd.prog 78 #[W k] w fun e w' => e = .returned (.int .i64 (lk : Nat)) ∧ Below w.heap.size w w') (cOf : ∀ w, Calls Tryd.prog 33 #[.int .u64 (max top lo - (p : Int) + 1 - lo + (p : Int) - 1)] w fun e w' => e = .returned (W n1) ∧ Below w.heap.size w w') (cLf : ∀ w, Calls Tryd.prog 48 #[W n1, .int .i64 ((p : Int) - 1)] w fun e w' => e = .returned (.tuple #[W n2, .bool lo1]) ∧ Below w.heap.size w w') (cAd : ∀ w, Calls Tryd.prog 51 #[W n2, W k] w fun e w' => e = .returned (.tuple #[W n3, .bool lo2]) ∧ Below w.heap.size w w') (cB : ∀ w, Calls Tryd.prog 90 #[W n3] w fun e w' => e = .returned (.tuple #[BV bb, .bool lo3]) ∧ Below w.heap.size w w') (cZ : ∀ w, Calls Tryd.prog 19 #[.int .u8 f, .bool neg] w fun e w' => e = .returned (BV z) ∧ Below w.heap.size w w')  :
    Calls Tryd.prog 32 #[.int .u8 f, .int .u8 m, RV neg s e false] w fun e w' => e = .returned (.tuple #[.agg #[.int .u64 (Go.bits .or .u64 (limb bb 1) (limb z 1)), .int .u64 (Go.bits .or .u64 (limb bb 0) (limb z 0))], .int .u8 0, .int .i64 0]) ∧ Below w.heap.size w w' := by
  have H := Own.start w
  have HT := Lib.hid hT
  clear hT
  have he2 : decide (e < -1048576) = false := by simp; omega
  have he3 : decide (1048576 < e) = false := by simp; omega
  have eq1 : ∀ w, (Op.equalIn 10000 54 (.agg (limbs s)) (.agg #[.int .u64 0, .int .u64 0, .int .u64 0, .int .u64 0, .int .u64 0, .int .u64 0])).run Tryd.prog w = .ok false w := fun w => (run_equal_zero w s hs).trans (by rw [hs0])
  have v1 : IntKind.i64.wrap ((l : Int) - 1) = (l : Int) - 1 := IntWalk.i64_in _ (by omega)
  have v2 : IntKind.i64.wrap ((l : Int) - 1 + e) = top := by rw [htop]; exact IntWalk.i64_in _ (by omega)
  clear hs hs0 htop
  have hov3 : decide ((E : Int) < top) = false := by simp; omega
  have hov4 : decide ((E : Int) < (lk : Int) - 1 + (max top lo - (p : Int) + 1)) = false := by simp only [decide_eq_false_iff_not]; exact hov2
  go_enter Tryd.func32, Tryd.ntmps32
  exact walk32
set_option maxHeartbeats 1600000 in
set_option maxRecDepth 100000 in
theorem roundPack_i_f (f m s p l E k lk z n1 n2 n3 bb : Nat) (e top lo : Int) (neg lo1 lo2 lo3 : Bool) (w : World) (hT : Tab w) (hp : p ≤ 113) (h1 : -1048576 ≤ e) (h2 : e ≤ 1048576) (hl4 : l ≤ 384) (cP : ∀ w, Calls Tryd.prog 65 #[.int .u8 f] w fun e w' => e = .returned (.int .i64 (p : Nat)) ∧ Below w.heap.size w w') (cR : ∀ w, Calls Tryd.prog 85 #[.int .u8 f, .int .u8 m] w fun e w' => e = .returned (.bool true) ∧ w = w') (cL : ∀ w, Calls Tryd.prog 78 #[W s] w fun e w' => e = .returned (.int .i64 (l : Nat)) ∧ Below w.heap.size w w') (hs : s < top6) (hs0 : decide (s = 0) = false) (htop : (l : Int) - 1 + e = top) (l1 : -20000 ≤ lo) (l2 : lo ≤ 20000) (t1 : -1100000 ≤ top) (t2 : top ≤ 1100000) (hE : E ≤ 16383) (cE : ∀ w, Calls Tryd.prog 86 #[.int .u8 f] w fun e w' => e = .returned (.int .i64 lo) ∧ Below w.heap.size w w') (cX : ∀ w, Calls Tryd.prog 55 #[.int .u8 f] w fun e w' => e = .returned (.int .i64 (E : Nat)) ∧ Below w.heap.size w w') (hlk : lk ≤ 384) (hov : ¬ (E : Int) < top) (hov2 : ¬ (E : Int) < (lk : Int) - 1 + (max top lo - (p : Int) + 1)) (cG : ∀ w, Tab w → Calls Tryd.prog 88 #[.int .u8 m, RV neg s e false, .int .i64 (max top lo - (p : Int) + 1)] w fun e w' => e = .returned (.tuple #[W k, .bool false]) ∧ Below w.heap.size w w') (cK : ∀ w, Calls Tryd.prog 78 #[W k] w fun e w' => e = .returned (.int .i64 (lk : Nat)) ∧ Below w.heap.size w w') (cOf : ∀ w, Calls Tryd.prog 33 #[.int .u64 (max top lo - (p : Int) + 1 - lo + (p : Int) - 1)] w fun e w' => e = .returned (W n1) ∧ Below w.heap.size w w') (cLf : ∀ w, Calls Tryd.prog 48 #[W n1, .int .i64 ((p : Int) - 1)] w fun e w' => e = .returned (.tuple #[W n2, .bool lo1]) ∧ Below w.heap.size w w') (cAd : ∀ w, Calls Tryd.prog 51 #[W n2, W k] w fun e w' => e = .returned (.tuple #[W n3, .bool lo2]) ∧ Below w.heap.size w w') (cB : ∀ w, Calls Tryd.prog 90 #[W n3] w fun e w' => e = .returned (.tuple #[BV bb, .bool lo3]) ∧ Below w.heap.size w w') (cZ : ∀ w, Calls Tryd.prog 19 #[.int .u8 f, .bool neg] w fun e w' => e = .returned (BV z) ∧ Below w.heap.size w w') (cT : ∀ w, Tab w → Calls Tryd.prog 89 #[.int .u8 f, .int .u8 m, RV neg s e false, .int .i64 top] w fun e w' => e = .returned (.bool false) ∧ Below w.heap.size w w')  :
    Calls Tryd.prog 32 #[.int .u8 f, .int .u8 m, RV neg s e false] w fun e w' => e = .returned (.tuple #[.agg #[.int .u64 (Go.bits .or .u64 (limb bb 1) (limb z 1)), .int .u64 (Go.bits .or .u64 (limb bb 0) (limb z 0))], .int .u8 (Go.bits .or .u8 0 1), .int .i64 0]) ∧ Below w.heap.size w w' := by
  have H := Own.start w
  have HT := Lib.hid hT
  clear hT
  have he2 : decide (e < -1048576) = false := by simp; omega
  have he3 : decide (1048576 < e) = false := by simp; omega
  have eq1 : ∀ w, (Op.equalIn 10000 54 (.agg (limbs s)) (.agg #[.int .u64 0, .int .u64 0, .int .u64 0, .int .u64 0, .int .u64 0, .int .u64 0])).run Tryd.prog w = .ok false w := fun w => (run_equal_zero w s hs).trans (by rw [hs0])
  have v1 : IntKind.i64.wrap ((l : Int) - 1) = (l : Int) - 1 := IntWalk.i64_in _ (by omega)
  have v2 : IntKind.i64.wrap ((l : Int) - 1 + e) = top := by rw [htop]; exact IntWalk.i64_in _ (by omega)
  clear hs hs0 htop
  have hov3 : decide ((E : Int) < top) = false := by simp; omega
  have hov4 : decide ((E : Int) < (lk : Int) - 1 + (max top lo - (p : Int) + 1)) = false := by simp only [decide_eq_false_iff_not]; exact hov2
  go_enter Tryd.func32, Tryd.ntmps32
  exact walk32
set_option maxHeartbeats 1600000 in
set_option maxRecDepth 100000 in
theorem roundPack_u_f (f m s p l E k lk z n1 n2 n3 bb : Nat) (e top lo : Int) (neg lo1 lo2 lo3 : Bool) (w : World) (hT : Tab w) (hp : p ≤ 113) (h1 : -1048576 ≤ e) (h2 : e ≤ 1048576) (hl4 : l ≤ 384) (cP : ∀ w, Calls Tryd.prog 65 #[.int .u8 f] w fun e w' => e = .returned (.int .i64 (p : Nat)) ∧ Below w.heap.size w w') (cR : ∀ w, Calls Tryd.prog 85 #[.int .u8 f, .int .u8 m] w fun e w' => e = .returned (.bool true) ∧ w = w') (cL : ∀ w, Calls Tryd.prog 78 #[W s] w fun e w' => e = .returned (.int .i64 (l : Nat)) ∧ Below w.heap.size w w') (hs : s < top6) (hs0 : decide (s = 0) = false) (htop : (l : Int) - 1 + e = top) (l1 : -20000 ≤ lo) (l2 : lo ≤ 20000) (t1 : -1100000 ≤ top) (t2 : top ≤ 1100000) (hE : E ≤ 16383) (cE : ∀ w, Calls Tryd.prog 86 #[.int .u8 f] w fun e w' => e = .returned (.int .i64 lo) ∧ Below w.heap.size w w') (cX : ∀ w, Calls Tryd.prog 55 #[.int .u8 f] w fun e w' => e = .returned (.int .i64 (E : Nat)) ∧ Below w.heap.size w w') (hlk : lk ≤ 384) (hov : ¬ (E : Int) < top) (hov2 : ¬ (E : Int) < (lk : Int) - 1 + (max top lo - (p : Int) + 1)) (cG : ∀ w, Tab w → Calls Tryd.prog 88 #[.int .u8 m, RV neg s e false, .int .i64 (max top lo - (p : Int) + 1)] w fun e w' => e = .returned (.tuple #[W k, .bool false]) ∧ Below w.heap.size w w') (cK : ∀ w, Calls Tryd.prog 78 #[W k] w fun e w' => e = .returned (.int .i64 (lk : Nat)) ∧ Below w.heap.size w w') (cOf : ∀ w, Calls Tryd.prog 33 #[.int .u64 (max top lo - (p : Int) + 1 - lo + (p : Int) - 1)] w fun e w' => e = .returned (W n1) ∧ Below w.heap.size w w') (cLf : ∀ w, Calls Tryd.prog 48 #[W n1, .int .i64 ((p : Int) - 1)] w fun e w' => e = .returned (.tuple #[W n2, .bool lo1]) ∧ Below w.heap.size w w') (cAd : ∀ w, Calls Tryd.prog 51 #[W n2, W k] w fun e w' => e = .returned (.tuple #[W n3, .bool lo2]) ∧ Below w.heap.size w w') (cB : ∀ w, Calls Tryd.prog 90 #[W n3] w fun e w' => e = .returned (.tuple #[BV bb, .bool lo3]) ∧ Below w.heap.size w w') (cZ : ∀ w, Calls Tryd.prog 19 #[.int .u8 f, .bool neg] w fun e w' => e = .returned (BV z) ∧ Below w.heap.size w w') (cT : ∀ w, Tab w → Calls Tryd.prog 89 #[.int .u8 f, .int .u8 m, RV neg s e false, .int .i64 top] w fun e w' => e = .returned (.bool true) ∧ Below w.heap.size w w')  :
    Calls Tryd.prog 32 #[.int .u8 f, .int .u8 m, RV neg s e false] w fun e w' => e = .returned (.tuple #[.agg #[.int .u64 (Go.bits .or .u64 (limb bb 1) (limb z 1)), .int .u64 (Go.bits .or .u64 (limb bb 0) (limb z 0))], .int .u8 (Go.bits .or .u8 (Go.bits .or .u8 0 1) 2), .int .i64 0]) ∧ Below w.heap.size w w' := by
  have H := Own.start w
  have HT := Lib.hid hT
  clear hT
  have he2 : decide (e < -1048576) = false := by simp; omega
  have he3 : decide (1048576 < e) = false := by simp; omega
  have eq1 : ∀ w, (Op.equalIn 10000 54 (.agg (limbs s)) (.agg #[.int .u64 0, .int .u64 0, .int .u64 0, .int .u64 0, .int .u64 0, .int .u64 0])).run Tryd.prog w = .ok false w := fun w => (run_equal_zero w s hs).trans (by rw [hs0])
  have v1 : IntKind.i64.wrap ((l : Int) - 1) = (l : Int) - 1 := IntWalk.i64_in _ (by omega)
  have v2 : IntKind.i64.wrap ((l : Int) - 1 + e) = top := by rw [htop]; exact IntWalk.i64_in _ (by omega)
  clear hs hs0 htop
  have hov3 : decide ((E : Int) < top) = false := by simp; omega
  have hov4 : decide ((E : Int) < (lk : Int) - 1 + (max top lo - (p : Int) + 1)) = false := by simp only [decide_eq_false_iff_not]; exact hov2
  go_enter Tryd.func32, Tryd.ntmps32
  exact walk32
set_option maxHeartbeats 1600000 in
set_option maxRecDepth 100000 in
theorem roundPack_x_t (f m s p l E k lk z n1 n2 n3 bb : Nat) (e top lo : Int) (neg lo1 lo2 lo3 : Bool) (w : World) (hT : Tab w) (hp : p ≤ 113) (h1 : -1048576 ≤ e) (h2 : e ≤ 1048576) (hl4 : l ≤ 384) (hl : ¬ l < p + 2) (cP : ∀ w, Calls Tryd.prog 65 #[.int .u8 f] w fun e w' => e = .returned (.int .i64 (p : Nat)) ∧ Below w.heap.size w w') (cR : ∀ w, Calls Tryd.prog 85 #[.int .u8 f, .int .u8 m] w fun e w' => e = .returned (.bool true) ∧ w = w') (cL : ∀ w, Calls Tryd.prog 78 #[W s] w fun e w' => e = .returned (.int .i64 (l : Nat)) ∧ Below w.heap.size w w') (hs : s < top6) (hs0 : decide (s = 0) = false) (htop : (l : Int) - 1 + e = top) (l1 : -20000 ≤ lo) (l2 : lo ≤ 20000) (t1 : -1100000 ≤ top) (t2 : top ≤ 1100000) (hE : E ≤ 16383) (cE : ∀ w, Calls Tryd.prog 86 #[.int .u8 f] w fun e w' => e = .returned (.int .i64 lo) ∧ Below w.heap.size w w') (cX : ∀ w, Calls Tryd.prog 55 #[.int .u8 f] w fun e w' => e = .returned (.int .i64 (E : Nat)) ∧ Below w.heap.size w w') (hlk : lk ≤ 384) (hov : ¬ (E : Int) < top) (hov2 : ¬ (E : Int) < (lk : Int) - 1 + (max top lo - (p : Int) + 1)) (cG : ∀ w, Tab w → Calls Tryd.prog 88 #[.int .u8 m, RV neg s e true, .int .i64 (max top lo - (p : Int) + 1)] w fun e w' => e = .returned (.tuple #[W k, .bool true]) ∧ Below w.heap.size w w') (cK : ∀ w, Calls Tryd.prog 78 #[W k] w fun e w' => e = .returned (.int .i64 (lk : Nat)) ∧ Below w.heap.size w w') (cOf : ∀ w, Calls Tryd.prog 33 #[.int .u64 (max top lo - (p : Int) + 1 - lo + (p : Int) - 1)] w fun e w' => e = .returned (W n1) ∧ Below w.heap.size w w') (cLf : ∀ w, Calls Tryd.prog 48 #[W n1, .int .i64 ((p : Int) - 1)] w fun e w' => e = .returned (.tuple #[W n2, .bool lo1]) ∧ Below w.heap.size w w') (cAd : ∀ w, Calls Tryd.prog 51 #[W n2, W k] w fun e w' => e = .returned (.tuple #[W n3, .bool lo2]) ∧ Below w.heap.size w w') (cB : ∀ w, Calls Tryd.prog 90 #[W n3] w fun e w' => e = .returned (.tuple #[BV bb, .bool lo3]) ∧ Below w.heap.size w w') (cZ : ∀ w, Calls Tryd.prog 19 #[.int .u8 f, .bool neg] w fun e w' => e = .returned (BV z) ∧ Below w.heap.size w w')  :
    Calls Tryd.prog 32 #[.int .u8 f, .int .u8 m, RV neg s e true] w fun e w' => e = .returned (.tuple #[.agg #[.int .u64 (Go.bits .or .u64 (limb bb 1) (limb z 1)), .int .u64 (Go.bits .or .u64 (limb bb 0) (limb z 0))], .int .u8 0, .int .i64 0]) ∧ Below w.heap.size w w' := by
  have H := Own.start w
  have HT := Lib.hid hT
  clear hT
  have he2 : decide (e < -1048576) = false := by simp; omega
  have he3 : decide (1048576 < e) = false := by simp; omega
  have hl2 : decide ((l : Int) < (p : Int) + 2) = false := by simp; omega
  have eq1 : ∀ w, (Op.equalIn 10000 54 (.agg (limbs s)) (.agg #[.int .u64 0, .int .u64 0, .int .u64 0, .int .u64 0, .int .u64 0, .int .u64 0])).run Tryd.prog w = .ok false w := fun w => (run_equal_zero w s hs).trans (by rw [hs0])
  have v1 : IntKind.i64.wrap ((l : Int) - 1) = (l : Int) - 1 := IntWalk.i64_in _ (by omega)
  have v2 : IntKind.i64.wrap ((l : Int) - 1 + e) = top := by rw [htop]; exact IntWalk.i64_in _ (by omega)
  clear hs hs0 htop
  have hov3 : decide ((E : Int) < top) = false := by simp; omega
  have hov4 : decide ((E : Int) < (lk : Int) - 1 + (max top lo - (p : Int) + 1)) = false := by simp only [decide_eq_false_iff_not]; exact hov2
  go_enter Tryd.func32, Tryd.ntmps32
  exact walk32
set_option maxHeartbeats 1600000 in
set_option maxRecDepth 100000 in
theorem roundPack_i_t (f m s p l E k lk z n1 n2 n3 bb : Nat) (e top lo : Int) (neg lo1 lo2 lo3 : Bool) (w : World) (hT : Tab w) (hp : p ≤ 113) (h1 : -1048576 ≤ e) (h2 : e ≤ 1048576) (hl4 : l ≤ 384) (hl : ¬ l < p + 2) (cP : ∀ w, Calls Tryd.prog 65 #[.int .u8 f] w fun e w' => e = .returned (.int .i64 (p : Nat)) ∧ Below w.heap.size w w') (cR : ∀ w, Calls Tryd.prog 85 #[.int .u8 f, .int .u8 m] w fun e w' => e = .returned (.bool true) ∧ w = w') (cL : ∀ w, Calls Tryd.prog 78 #[W s] w fun e w' => e = .returned (.int .i64 (l : Nat)) ∧ Below w.heap.size w w') (hs : s < top6) (hs0 : decide (s = 0) = false) (htop : (l : Int) - 1 + e = top) (l1 : -20000 ≤ lo) (l2 : lo ≤ 20000) (t1 : -1100000 ≤ top) (t2 : top ≤ 1100000) (hE : E ≤ 16383) (cE : ∀ w, Calls Tryd.prog 86 #[.int .u8 f] w fun e w' => e = .returned (.int .i64 lo) ∧ Below w.heap.size w w') (cX : ∀ w, Calls Tryd.prog 55 #[.int .u8 f] w fun e w' => e = .returned (.int .i64 (E : Nat)) ∧ Below w.heap.size w w') (hlk : lk ≤ 384) (hov : ¬ (E : Int) < top) (hov2 : ¬ (E : Int) < (lk : Int) - 1 + (max top lo - (p : Int) + 1)) (cG : ∀ w, Tab w → Calls Tryd.prog 88 #[.int .u8 m, RV neg s e true, .int .i64 (max top lo - (p : Int) + 1)] w fun e w' => e = .returned (.tuple #[W k, .bool false]) ∧ Below w.heap.size w w') (cK : ∀ w, Calls Tryd.prog 78 #[W k] w fun e w' => e = .returned (.int .i64 (lk : Nat)) ∧ Below w.heap.size w w') (cOf : ∀ w, Calls Tryd.prog 33 #[.int .u64 (max top lo - (p : Int) + 1 - lo + (p : Int) - 1)] w fun e w' => e = .returned (W n1) ∧ Below w.heap.size w w') (cLf : ∀ w, Calls Tryd.prog 48 #[W n1, .int .i64 ((p : Int) - 1)] w fun e w' => e = .returned (.tuple #[W n2, .bool lo1]) ∧ Below w.heap.size w w') (cAd : ∀ w, Calls Tryd.prog 51 #[W n2, W k] w fun e w' => e = .returned (.tuple #[W n3, .bool lo2]) ∧ Below w.heap.size w w') (cB : ∀ w, Calls Tryd.prog 90 #[W n3] w fun e w' => e = .returned (.tuple #[BV bb, .bool lo3]) ∧ Below w.heap.size w w') (cZ : ∀ w, Calls Tryd.prog 19 #[.int .u8 f, .bool neg] w fun e w' => e = .returned (BV z) ∧ Below w.heap.size w w') (cT : ∀ w, Tab w → Calls Tryd.prog 89 #[.int .u8 f, .int .u8 m, RV neg s e true, .int .i64 top] w fun e w' => e = .returned (.bool false) ∧ Below w.heap.size w w')  :
    Calls Tryd.prog 32 #[.int .u8 f, .int .u8 m, RV neg s e true] w fun e w' => e = .returned (.tuple #[.agg #[.int .u64 (Go.bits .or .u64 (limb bb 1) (limb z 1)), .int .u64 (Go.bits .or .u64 (limb bb 0) (limb z 0))], .int .u8 (Go.bits .or .u8 0 1), .int .i64 0]) ∧ Below w.heap.size w w' := by
  have H := Own.start w
  have HT := Lib.hid hT
  clear hT
  have he2 : decide (e < -1048576) = false := by simp; omega
  have he3 : decide (1048576 < e) = false := by simp; omega
  have hl2 : decide ((l : Int) < (p : Int) + 2) = false := by simp; omega
  have eq1 : ∀ w, (Op.equalIn 10000 54 (.agg (limbs s)) (.agg #[.int .u64 0, .int .u64 0, .int .u64 0, .int .u64 0, .int .u64 0, .int .u64 0])).run Tryd.prog w = .ok false w := fun w => (run_equal_zero w s hs).trans (by rw [hs0])
  have v1 : IntKind.i64.wrap ((l : Int) - 1) = (l : Int) - 1 := IntWalk.i64_in _ (by omega)
  have v2 : IntKind.i64.wrap ((l : Int) - 1 + e) = top := by rw [htop]; exact IntWalk.i64_in _ (by omega)
  clear hs hs0 htop
  have hov3 : decide ((E : Int) < top) = false := by simp; omega
  have hov4 : decide ((E : Int) < (lk : Int) - 1 + (max top lo - (p : Int) + 1)) = false := by simp only [decide_eq_false_iff_not]; exact hov2
  go_enter Tryd.func32, Tryd.ntmps32
  exact walk32
set_option maxHeartbeats 1600000 in
set_option maxRecDepth 100000 in
theorem roundPack_u_t (f m s p l E k lk z n1 n2 n3 bb : Nat) (e top lo : Int) (neg lo1 lo2 lo3 : Bool) (w : World) (hT : Tab w) (hp : p ≤ 113) (h1 : -1048576 ≤ e) (h2 : e ≤ 1048576) (hl4 : l ≤ 384) (hl : ¬ l < p + 2) (cP : ∀ w, Calls Tryd.prog 65 #[.int .u8 f] w fun e w' => e = .returned (.int .i64 (p : Nat)) ∧ Below w.heap.size w w') (cR : ∀ w, Calls Tryd.prog 85 #[.int .u8 f, .int .u8 m] w fun e w' => e = .returned (.bool true) ∧ w = w') (cL : ∀ w, Calls Tryd.prog 78 #[W s] w fun e w' => e = .returned (.int .i64 (l : Nat)) ∧ Below w.heap.size w w') (hs : s < top6) (hs0 : decide (s = 0) = false) (htop : (l : Int) - 1 + e = top) (l1 : -20000 ≤ lo) (l2 : lo ≤ 20000) (t1 : -1100000 ≤ top) (t2 : top ≤ 1100000) (hE : E ≤ 16383) (cE : ∀ w, Calls Tryd.prog 86 #[.int .u8 f] w fun e w' => e = .returned (.int .i64 lo) ∧ Below w.heap.size w w') (cX : ∀ w, Calls Tryd.prog 55 #[.int .u8 f] w fun e w' => e = .returned (.int .i64 (E : Nat)) ∧ Below w.heap.size w w') (hlk : lk ≤ 384) (hov : ¬ (E : Int) < top) (hov2 : ¬ (E : Int) < (lk : Int) - 1 + (max top lo - (p : Int) + 1)) (cG : ∀ w, Tab w → Calls Tryd.prog 88 #[.int .u8 m, RV neg s e true, .int .i64 (max top lo - (p : Int) + 1)] w fun e w' => e = .returned (.tuple #[W k, .bool false]) ∧ Below w.heap.size w w') (cK : ∀ w, Calls Tryd.prog 78 #[W k] w fun e w' => e = .returned (.int .i64 (lk : Nat)) ∧ Below w.heap.size w w') (cOf : ∀ w, Calls Tryd.prog 33 #[.int .u64 (max top lo - (p : Int) + 1 - lo + (p : Int) - 1)] w fun e w' => e = .returned (W n1) ∧ Below w.heap.size w w') (cLf : ∀ w, Calls Tryd.prog 48 #[W n1, .int .i64 ((p : Int) - 1)] w fun e w' => e = .returned (.tuple #[W n2, .bool lo1]) ∧ Below w.heap.size w w') (cAd : ∀ w, Calls Tryd.prog 51 #[W n2, W k] w fun e w' => e = .returned (.tuple #[W n3, .bool lo2]) ∧ Below w.heap.size w w') (cB : ∀ w, Calls Tryd.prog 90 #[W n3] w fun e w' => e = .returned (.tuple #[BV bb, .bool lo3]) ∧ Below w.heap.size w w') (cZ : ∀ w, Calls Tryd.prog 19 #[.int .u8 f, .bool neg] w fun e w' => e = .returned (BV z) ∧ Below w.heap.size w w') (cT : ∀ w, Tab w → Calls Tryd.prog 89 #[.int .u8 f, .int .u8 m, RV neg s e true, .int .i64 top] w fun e w' => e = .returned (.bool true) ∧ Below w.heap.size w w')  :
    Calls Tryd.prog 32 #[.int .u8 f, .int .u8 m, RV neg s e true] w fun e w' => e = .returned (.tuple #[.agg #[.int .u64 (Go.bits .or .u64 (limb bb 1) (limb z 1)), .int .u64 (Go.bits .or .u64 (limb bb 0) (limb z 0))], .int .u8 (Go.bits .or .u8 (Go.bits .or .u8 0 1) 2), .int .i64 0]) ∧ Below w.heap.size w w' := by
  have H := Own.start w
  have HT := Lib.hid hT
  clear hT
  have he2 : decide (e < -1048576) = false := by simp; omega
  have he3 : decide (1048576 < e) = false := by simp; omega
  have hl2 : decide ((l : Int) < (p : Int) + 2) = false := by simp; omega
  have eq1 : ∀ w, (Op.equalIn 10000 54 (.agg (limbs s)) (.agg #[.int .u64 0, .int .u64 0, .int .u64 0, .int .u64 0, .int .u64 0, .int .u64 0])).run Tryd.prog w = .ok false w := fun w => (run_equal_zero w s hs).trans (by rw [hs0])
  have v1 : IntKind.i64.wrap ((l : Int) - 1) = (l : Int) - 1 := IntWalk.i64_in _ (by omega)
  have v2 : IntKind.i64.wrap ((l : Int) - 1 + e) = top := by rw [htop]; exact IntWalk.i64_in _ (by omega)
  clear hs hs0 htop
  have hov3 : decide ((E : Int) < top) = false := by simp; omega
  have hov4 : decide ((E : Int) < (lk : Int) - 1 + (max top lo - (p : Int) + 1)) = false := by simp only [decide_eq_false_iff_not]; exact hov2
  go_enter Tryd.func32, Tryd.ntmps32
  exact walk32
end Go.Proofs.YtdcgcjmajacgiaaDoor

namespace Go.Proofs.YtdcgcjmajacgiaaDoor
open Go.RowKit
set_option maxHeartbeats 1600000 in
set_option maxRecDepth 100000 in
theorem roundPack_over2_f (f m s p l E k lk o : Nat) (e top lo : Int) (neg ex : Bool) (w : World) (hT : Tab w) (hp : p ≤ 113) (h1 : -1048576 ≤ e) (h2 : e ≤ 1048576) (hl4 : l ≤ 384) (cP : ∀ w, Calls Tryd.prog 65 #[.int .u8 f] w fun e w' => e = .returned (.int .i64 (p : Nat)) ∧ Below w.heap.size w w') (cR : ∀ w, Calls Tryd.prog 85 #[.int .u8 f, .int .u8 m] w fun e w' => e = .returned (.bool true) ∧ w = w') (cL : ∀ w, Calls Tryd.prog 78 #[W s] w fun e w' => e = .returned (.int .i64 (l : Nat)) ∧ Below w.heap.size w w') (hs : s < top6) (hs0 : decide (s = 0) = false) (htop : (l : Int) - 1 + e = top) (l1 : -20000 ≤ lo) (l2 : lo ≤ 20000) (t1 : -1100000 ≤ top) (t2 : top ≤ 1100000) (hE : E ≤ 16383) (cE : ∀ w, Calls Tryd.prog 86 #[.int .u8 f] w fun e w' => e = .returned (.int .i64 lo) ∧ Below w.heap.size w w') (cX : ∀ w, Calls Tryd.prog 55 #[.int .u8 f] w fun e w' => e = .returned (.int .i64 (E : Nat)) ∧ Below w.heap.size w w') (hlk : lk ≤ 384) (hov : ¬ (E : Int) < top) (hov2 : (E : Int) < (lk : Int) - 1 + (max top lo - (p : Int) + 1)) (cG : ∀ w, Tab w → Calls Tryd.prog 88 #[.int .u8 m, RV neg s e false, .int .i64 (max top lo - (p : Int) + 1)] w fun e w' => e = .returned (.tuple #[W k, .bool ex]) ∧ Below w.heap.size w w') (cK : ∀ w, Calls Tryd.prog 78 #[W k] w fun e w' => e = .returned (.int .i64 (lk : Nat)) ∧ Below w.heap.size w w') (cO : ∀ w, Calls Tryd.prog 87 #[.int .u8 f, .int .u8 m, .bool neg] w fun e w' => e = .returned (.tuple #[BV o, .int .u8 5, .int .i64 0]) ∧ Below w.heap.size w w')  :
    Calls Tryd.prog 32 #[.int .u8 f, .int .u8 m, RV neg s e false] w fun e w' => e = .returned (.tuple #[BV o, .int .u8 5, .int .i64 0]) ∧ Below w.heap.size w w' := by
  have H := Own.start w
  have HT := Lib.hid hT
  clear hT
  have he2 : decide (e < -1048576) = false := by simp; omega
  have he3 : decide (1048576 < e) = false := by simp; omega
  have eq1 : ∀ w, (Op.equalIn 10000 54 (.agg (limbs s)) (.agg #[.int .u64 0, .int .u64 0, .int .u64 0, .int .u64 0, .int .u64 0, .int .u64 0])).run Tryd.prog w = .ok false w := fun w => (run_equal_zero w s hs).trans (by rw [hs0])
  have v1 : IntKind.i64.wrap ((l : Int) - 1) = (l : Int) - 1 := IntWalk.i64_in _ (by omega)
  have v2 : IntKind.i64.wrap ((l : Int) - 1 + e) = top := by rw [htop]; exact IntWalk.i64_in _ (by omega)
  clear hs hs0 htop
  have hov3 : decide ((E : Int) < top) = false := by simp; omega
  have hov4 : decide ((E : Int) < (lk : Int) - 1 + (max top lo - (p : Int) + 1)) = true := by simp only [decide_eq_true_eq]; exact hov2
  go_enter Tryd.func32, Tryd.ntmps32
  exact walk32
set_option maxHeartbeats 1600000 in
set_option maxRecDepth 100000 in
theorem roundPack_over2_t (f m s p l E k lk o : Nat) (e top lo : Int) (neg ex : Bool) (w : World) (hT : Tab w) (hp : p ≤ 113) (h1 : -1048576 ≤ e) (h2 : e ≤ 1048576) (hl4 : l ≤ 384) (hl : ¬ l < p + 2) (cP : ∀ w, Calls Tryd.prog 65 #[.int .u8 f] w fun e w' => e = .returned (.int .i64 (p : Nat)) ∧ Below w.heap.size w w') (cR : ∀ w, Calls Tryd.prog 85 #[.int .u8 f, .int .u8 m] w fun e w' => e = .returned (.bool true) ∧ w = w') (cL : ∀ w, Calls Tryd.prog 78 #[W s] w fun e w' => e = .returned (.int .i64 (l : Nat)) ∧ Below w.heap.size w w') (hs : s < top6) (hs0 : decide (s = 0) = false) (htop : (l : Int) - 1 + e = top) (l1 : -20000 ≤ lo) (l2 : lo ≤ 20000) (t1 : -1100000 ≤ top) (t2 : top ≤ 1100000) (hE : E ≤ 16383) (cE : ∀ w, Calls Tryd.prog 86 #[.int .u8 f] w fun e w' => e = .returned (.int .i64 lo) ∧ Below w.heap.size w w') (cX : ∀ w, Calls Tryd.prog 55 #[.int .u8 f] w fun e w' => e = .returned (.int .i64 (E : Nat)) ∧ Below w.heap.size w w') (hlk : lk ≤ 384) (hov : ¬ (E : Int) < top) (hov2 : (E : Int) < (lk : Int) - 1 + (max top lo - (p : Int) + 1)) (cG : ∀ w, Tab w → Calls Tryd.prog 88 #[.int .u8 m, RV neg s e true, .int .i64 (max top lo - (p : Int) + 1)] w fun e w' => e = .returned (.tuple #[W k, .bool ex]) ∧ Below w.heap.size w w') (cK : ∀ w, Calls Tryd.prog 78 #[W k] w fun e w' => e = .returned (.int .i64 (lk : Nat)) ∧ Below w.heap.size w w') (cO : ∀ w, Calls Tryd.prog 87 #[.int .u8 f, .int .u8 m, .bool neg] w fun e w' => e = .returned (.tuple #[BV o, .int .u8 5, .int .i64 0]) ∧ Below w.heap.size w w')  :
    Calls Tryd.prog 32 #[.int .u8 f, .int .u8 m, RV neg s e true] w fun e w' => e = .returned (.tuple #[BV o, .int .u8 5, .int .i64 0]) ∧ Below w.heap.size w w' := by
  have H := Own.start w
  have HT := Lib.hid hT
  clear hT
  have he2 : decide (e < -1048576) = false := by simp; omega
  have he3 : decide (1048576 < e) = false := by simp; omega
  have hl2 : decide ((l : Int) < (p : Int) + 2) = false := by simp; omega
  have eq1 : ∀ w, (Op.equalIn 10000 54 (.agg (limbs s)) (.agg #[.int .u64 0, .int .u64 0, .int .u64 0, .int .u64 0, .int .u64 0, .int .u64 0])).run Tryd.prog w = .ok false w := fun w => (run_equal_zero w s hs).trans (by rw [hs0])
  have v1 : IntKind.i64.wrap ((l : Int) - 1) = (l : Int) - 1 := IntWalk.i64_in _ (by omega)
  have v2 : IntKind.i64.wrap ((l : Int) - 1 + e) = top := by rw [htop]; exact IntWalk.i64_in _ (by omega)
  clear hs hs0 htop
  have hov3 : decide ((E : Int) < top) = false := by simp; omega
  have hov4 : decide ((E : Int) < (lk : Int) - 1 + (max top lo - (p : Int) + 1)) = true := by simp only [decide_eq_true_eq]; exact hov2
  go_enter Tryd.func32, Tryd.ntmps32
  exact walk32
end Go.Proofs.YtdcgcjmajacgiaaDoor
