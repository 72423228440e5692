/- Part 4 of what is proved: Sht, Pck, Unp2, Unp3. -/
import Derived.Deep.Cut
import Derived.Test.YtdcgcjmajacgiaaDoorFb1
import Derived.Test.YtdcgcjmajacgiaaDoorFb3
set_option linter.unusedSimpArgs false
set_option linter.unusedVariables false
set_option linter.unnecessarySimpa false
namespace Go.Proofs.YtdcgcjmajacgiaaDoor
open Go.RowKit
set_option maxHeartbeats 1600000 in
set_option maxRecDepth 100000 in
theorem shapeGreatest_0 (neg : Bool) (w : World) :
    Calls Tryd.prog 107 #[.int .u8 0, .bool neg] w fun e w' => e = .returned (BV (greatN 0 neg)) ∧ Below w.heap.size w w' := by
  have H := Own.start w
  have cI : ∀ w, Calls Tryd.prog 18 #[.int .u8 0, .bool false] w fun e w' => e = .returned (.agg #[.int .u64 0, .int .u64 2139095040]) ∧ Below w.heap.size w w' := fun w => shapeInf_any 0 false w (by decide)
  have cW : ∀ w, Calls Tryd.prog 53 #[.int .u8 0, .agg #[.int .u64 0, .int .u64 2139095039], .bool neg] w fun e w' => e = .returned (BV (greatN 0 neg)) ∧ Below w.heap.size w w' := by
    intro w
    have := shapeWith_any 0 2139095039 neg w (by decide)
    rw [or_sign 0 2139095039 neg (by decide)] at this
    exact this
  have cC : ∀ w, Calls Tryd.prog 21 #[.int .u8 0] w fun e w' => e = .returned (.int .i64 0) ∧ w = w' := fun w => shapeCheck_any 0 w (by decide)
  have cN : ∀ w, Calls Tryd.prog 41 #[.int .u8 0] w fun e w' => e = .returned (.int .i64 32) ∧ Below w.heap.size w w' := fun w => shapeWidth_any 0 w (by decide)
  go_enter Tryd.func107, Tryd.ntmps107
  go_wp2_with (first
    | ((with_reducible show wpList _ _ _ (⟨_, .box _ _, _, _, _, _⟩ :: _) _ _); refine H.box rfl rfl (cells_agg _) ?_; (intro g w H; simp only [Act.put, List.setIfInBounds_toArray, List.set_cons_zero, List.set_cons_succ, List.set_nil]))
    | ((with_reducible show wpList _ _ _ (⟨_, .alloc 27, _, _, _, _⟩ :: _) _ _); refine H.new rfl (T := 27) rfl tB_z (cells_agg _) ?_; (intro g w H; simp only [Act.put, List.setIfInBounds_toArray, List.set_cons_zero, List.set_cons_succ, List.set_nil]))
    | ((with_reducible show wpList _ _ _ (⟨_, .alloc 25, _, _, _, _⟩ :: _) _ _); refine H.new rfl (T := 25) rfl tu_z (cells_int _ _) ?_; (intro g w H; simp only [Act.put, List.setIfInBounds_toArray, List.set_cons_zero, List.set_cons_succ, List.set_nil]))
    | ((with_reducible show wpList _ _ _ (⟨_, .load 27 _, _, _, _, _⟩ :: _) _ _); (first | refine H.load rfl (ty := 27) rfl rfl 0 rfl Tryd.underlying27 rfl (by with_reducible exact ext_2 _ _) (by exact tB_s) ?_ | refine H.load rfl (ty := 27) rfl rfl 1 rfl Tryd.underlying27 rfl (by with_reducible exact ext_2 _ _) (by exact tB_s) ?_); simp only [Act.put, List.setIfInBounds_toArray, List.set_cons_zero, List.set_cons_succ, List.set_nil])
    | ((with_reducible show wpList _ _ _ (⟨_, .load 25 _, _, _, _, _⟩ :: _) _ _); (first | refine H.load1 rfl (ty := 25) rfl rfl 0 rfl Tryd.underlying25 rfl (by with_reducible exact get_20 _ _) ?_ | refine H.load1 rfl (ty := 25) rfl rfl 0 rfl Tryd.underlying25 rfl (by with_reducible exact get_21 _ _) ?_ | refine H.load1 rfl (ty := 25) rfl rfl 0 rfl Tryd.underlying25 rfl (by with_reducible exact limbs_o0 _) ?_ | refine H.load1 rfl (ty := 25) rfl rfl 0 rfl Tryd.underlying25 rfl (by with_reducible exact limbs_o1 _) ?_ | refine H.load1 rfl (ty := 25) rfl rfl 0 rfl Tryd.underlying25 rfl (by with_reducible exact limbs_o2 _) ?_ | refine H.load1 rfl (ty := 25) rfl rfl 0 rfl Tryd.underlying25 rfl (by with_reducible exact limbs_o3 _) ?_ | refine H.load1 rfl (ty := 25) rfl rfl 0 rfl Tryd.underlying25 rfl (by with_reducible exact limbs_o4 _) ?_ | refine H.load1 rfl (ty := 25) rfl rfl 0 rfl Tryd.underlying25 rfl (by with_reducible exact limbs_o5 _) ?_ | refine H.load1 rfl (ty := 25) rfl rfl 0 rfl Tryd.underlying25 rfl (by with_reducible exact get_10 _) ?_ | refine H.load1 rfl (ty := 25) rfl rfl 1 rfl Tryd.underlying25 rfl (by with_reducible exact get_20 _ _) ?_ | refine H.load1 rfl (ty := 25) rfl rfl 1 rfl Tryd.underlying25 rfl (by with_reducible exact get_21 _ _) ?_ | refine H.load1 rfl (ty := 25) rfl rfl 1 rfl Tryd.underlying25 rfl (by with_reducible exact limbs_o0 _) ?_ | refine H.load1 rfl (ty := 25) rfl rfl 1 rfl Tryd.underlying25 rfl (by with_reducible exact limbs_o1 _) ?_ | refine H.load1 rfl (ty := 25) rfl rfl 1 rfl Tryd.underlying25 rfl (by with_reducible exact limbs_o2 _) ?_ | refine H.load1 rfl (ty := 25) rfl rfl 1 rfl Tryd.underlying25 rfl (by with_reducible exact limbs_o3 _) ?_ | refine H.load1 rfl (ty := 25) rfl rfl 1 rfl Tryd.underlying25 rfl (by with_reducible exact limbs_o4 _) ?_ | refine H.load1 rfl (ty := 25) rfl rfl 1 rfl Tryd.underlying25 rfl (by with_reducible exact limbs_o5 _) ?_ | refine H.load1 rfl (ty := 25) rfl rfl 1 rfl Tryd.underlying25 rfl (by with_reducible exact get_10 _) ?_); simp only [Act.put, List.setIfInBounds_toArray, List.set_cons_zero, List.set_cons_succ, List.set_nil])
    | ((with_reducible show wpList _ _ _ (⟨_, .store 27 _ _, _, _, _, _⟩ :: _) _ _); (first | refine H.store rfl (ty := 27) rfl rfl (cells_agg _) 0 rfl (by with_reducible exact set_all _ _ rfl) (by exact tB_s) (one_of rfl) (ble_le rfl) ?_ | refine H.store rfl (ty := 27) rfl rfl (cells_agg _) 1 rfl (by with_reducible exact set_all _ _ rfl) (by exact tB_s) (one_of rfl) (ble_le rfl) ?_); (intro w H; simp only [List.set_cons_zero, List.set_cons_succ] at H; simp only [Act.put, List.setIfInBounds_toArray, List.set_cons_zero, List.set_cons_succ, List.set_nil]))
    | ((with_reducible show wpList _ _ _ (⟨_, .store 25 _ _, _, _, _, _⟩ :: _) _ _); (first | refine H.store rfl (ty := 25) rfl rfl (cells_int _ _) 0 rfl (by with_reducible exact set_20 _ _ _) (by exact tu_s) (one_of rfl) (ble_le rfl) ?_ | refine H.store rfl (ty := 25) rfl rfl (cells_int _ _) 0 rfl (by with_reducible exact set_21 _ _ _) (by exact tu_s) (one_of rfl) (ble_le rfl) ?_ | refine H.store rfl (ty := 25) rfl rfl (cells_int _ _) 0 rfl (by with_reducible exact set_10 _ _) (by exact tu_s) (one_of rfl) (ble_le rfl) ?_ | refine H.store rfl (ty := 25) rfl rfl (cells_int _ _) 1 rfl (by with_reducible exact set_20 _ _ _) (by exact tu_s) (one_of rfl) (ble_le rfl) ?_ | refine H.store rfl (ty := 25) rfl rfl (cells_int _ _) 1 rfl (by with_reducible exact set_21 _ _ _) (by exact tu_s) (one_of rfl) (ble_le rfl) ?_ | refine H.store rfl (ty := 25) rfl rfl (cells_int _ _) 1 rfl (by with_reducible exact set_10 _ _) (by exact tu_s) (one_of rfl) (ble_le rfl) ?_); (intro w H; simp only [List.set_cons_zero, List.set_cons_succ] at H; simp only [Act.put, List.setIfInBounds_toArray, List.set_cons_zero, List.set_cons_succ, List.set_nil]))
    | (go_at_call 18; ((with_reducible refine (cI _).mono ?_); rintro e w ⟨rfl, hb⟩; replace H := H.call hb; clear hb))
    | (go_at_call 21; ((with_reducible refine (cC _).mono ?_); rintro e w' ⟨rfl, rfl⟩))
    | (go_at_call 41; ((with_reducible refine (cN _).mono ?_); rintro e w ⟨rfl, hb⟩; replace H := H.call hb; clear hb))
    | (go_at_call 53; ((with_reducible refine (cW _).mono ?_); rintro e w ⟨rfl, hb⟩; replace H := H.call hb; clear hb))
    )
  (first | refine bodyPost_ret (results_c rfl rfl (H.result 0 rfl Tryd.underlying27 rfl (by exact tB_s) (ext_2 _ _))) rfl ⟨?_, H.below⟩ | refine bodyPost_ret (results_c rfl rfl (H.result 1 rfl Tryd.underlying27 rfl (by exact tB_s) (ext_2 _ _))) rfl ⟨?_, H.below⟩)
  exact rfl
set_option maxHeartbeats 1600000 in
set_option maxRecDepth 100000 in
theorem shapeGreatest_1 (neg : Bool) (w : World) :
    Calls Tryd.prog 107 #[.int .u8 1, .bool neg] w fun e w' => e = .returned (BV (greatN 1 neg)) ∧ Below w.heap.size w w' := by
  have H := Own.start w
  have cI : ∀ w, Calls Tryd.prog 18 #[.int .u8 1, .bool false] w fun e w' => e = .returned (.agg #[.int .u64 0, .int .u64 9218868437227405312]) ∧ Below w.heap.size w w' := fun w => shapeInf_any 1 false w (by decide)
  have cW : ∀ w, Calls Tryd.prog 53 #[.int .u8 1, .agg #[.int .u64 0, .int .u64 9218868437227405311], .bool neg] w fun e w' => e = .returned (BV (greatN 1 neg)) ∧ Below w.heap.size w w' := by
    intro w
    have := shapeWith_any 1 9218868437227405311 neg w (by decide)
    rw [or_sign 1 9218868437227405311 neg (by decide)] at this
    exact this
  have cC : ∀ w, Calls Tryd.prog 21 #[.int .u8 1] w fun e w' => e = .returned (.int .i64 0) ∧ w = w' := fun w => shapeCheck_any 1 w (by decide)
  have cN : ∀ w, Calls Tryd.prog 41 #[.int .u8 1] w fun e w' => e = .returned (.int .i64 64) ∧ Below w.heap.size w w' := fun w => shapeWidth_any 1 w (by decide)
  go_enter Tryd.func107, Tryd.ntmps107
  go_wp2_with (first
    | ((with_reducible show wpList _ _ _ (⟨_, .box _ _, _, _, _, _⟩ :: _) _ _); refine H.box rfl rfl (cells_agg _) ?_; (intro g w H; simp only [Act.put, List.setIfInBounds_toArray, List.set_cons_zero, List.set_cons_succ, List.set_nil]))
    | ((with_reducible show wpList _ _ _ (⟨_, .alloc 27, _, _, _, _⟩ :: _) _ _); refine H.new rfl (T := 27) rfl tB_z (cells_agg _) ?_; (intro g w H; simp only [Act.put, List.setIfInBounds_toArray, List.set_cons_zero, List.set_cons_succ, List.set_nil]))
    | ((with_reducible show wpList _ _ _ (⟨_, .alloc 25, _, _, _, _⟩ :: _) _ _); refine H.new rfl (T := 25) rfl tu_z (cells_int _ _) ?_; (intro g w H; simp only [Act.put, List.setIfInBounds_toArray, List.set_cons_zero, List.set_cons_succ, List.set_nil]))
    | ((with_reducible show wpList _ _ _ (⟨_, .load 27 _, _, _, _, _⟩ :: _) _ _); (first | refine H.load rfl (ty := 27) rfl rfl 0 rfl Tryd.underlying27 rfl (by with_reducible exact ext_2 _ _) (by exact tB_s) ?_ | refine H.load rfl (ty := 27) rfl rfl 1 rfl Tryd.underlying27 rfl (by with_reducible exact ext_2 _ _) (by exact tB_s) ?_); simp only [Act.put, List.setIfInBounds_toArray, List.set_cons_zero, List.set_cons_succ, List.set_nil])
    | ((with_reducible show wpList _ _ _ (⟨_, .load 25 _, _, _, _, _⟩ :: _) _ _); (first | refine H.load1 rfl (ty := 25) rfl rfl 0 rfl Tryd.underlying25 rfl (by with_reducible exact get_20 _ _) ?_ | refine H.load1 rfl (ty := 25) rfl rfl 0 rfl Tryd.underlying25 rfl (by with_reducible exact get_21 _ _) ?_ | refine H.load1 rfl (ty := 25) rfl rfl 0 rfl Tryd.underlying25 rfl (by with_reducible exact limbs_o0 _) ?_ | refine H.load1 rfl (ty := 25) rfl rfl 0 rfl Tryd.underlying25 rfl (by with_reducible exact limbs_o1 _) ?_ | refine H.load1 rfl (ty := 25) rfl rfl 0 rfl Tryd.underlying25 rfl (by with_reducible exact limbs_o2 _) ?_ | refine H.load1 rfl (ty := 25) rfl rfl 0 rfl Tryd.underlying25 rfl (by with_reducible exact limbs_o3 _) ?_ | refine H.load1 rfl (ty := 25) rfl rfl 0 rfl Tryd.underlying25 rfl (by with_reducible exact limbs_o4 _) ?_ | refine H.load1 rfl (ty := 25) rfl rfl 0 rfl Tryd.underlying25 rfl (by with_reducible exact limbs_o5 _) ?_ | refine H.load1 rfl (ty := 25) rfl rfl 0 rfl Tryd.underlying25 rfl (by with_reducible exact get_10 _) ?_ | refine H.load1 rfl (ty := 25) rfl rfl 1 rfl Tryd.underlying25 rfl (by with_reducible exact get_20 _ _) ?_ | refine H.load1 rfl (ty := 25) rfl rfl 1 rfl Tryd.underlying25 rfl (by with_reducible exact get_21 _ _) ?_ | refine H.load1 rfl (ty := 25) rfl rfl 1 rfl Tryd.underlying25 rfl (by with_reducible exact limbs_o0 _) ?_ | refine H.load1 rfl (ty := 25) rfl rfl 1 rfl Tryd.underlying25 rfl (by with_reducible exact limbs_o1 _) ?_ | refine H.load1 rfl (ty := 25) rfl rfl 1 rfl Tryd.underlying25 rfl (by with_reducible exact limbs_o2 _) ?_ | refine H.load1 rfl (ty := 25) rfl rfl 1 rfl Tryd.underlying25 rfl (by with_reducible exact limbs_o3 _) ?_ | refine H.load1 rfl (ty := 25) rfl rfl 1 rfl Tryd.underlying25 rfl (by with_reducible exact limbs_o4 _) ?_ | refine H.load1 rfl (ty := 25) rfl rfl 1 rfl Tryd.underlying25 rfl (by with_reducible exact limbs_o5 _) ?_ | refine H.load1 rfl (ty := 25) rfl rfl 1 rfl Tryd.underlying25 rfl (by with_reducible exact get_10 _) ?_); simp only [Act.put, List.setIfInBounds_toArray, List.set_cons_zero, List.set_cons_succ, List.set_nil])
    | ((with_reducible show wpList _ _ _ (⟨_, .store 27 _ _, _, _, _, _⟩ :: _) _ _); (first | refine H.store rfl (ty := 27) rfl rfl (cells_agg _) 0 rfl (by with_reducible exact set_all _ _ rfl) (by exact tB_s) (one_of rfl) (ble_le rfl) ?_ | refine H.store rfl (ty := 27) rfl rfl (cells_agg _) 1 rfl (by with_reducible exact set_all _ _ rfl) (by exact tB_s) (one_of rfl) (ble_le rfl) ?_); (intro w H; simp only [List.set_cons_zero, List.set_cons_succ] at H; simp only [Act.put, List.setIfInBounds_toArray, List.set_cons_zero, List.set_cons_succ, List.set_nil]))
    | ((with_reducible show wpList _ _ _ (⟨_, .store 25 _ _, _, _, _, _⟩ :: _) _ _); (first | refine H.store rfl (ty := 25) rfl rfl (cells_int _ _) 0 rfl (by with_reducible exact set_20 _ _ _) (by exact tu_s) (one_of rfl) (ble_le rfl) ?_ | refine H.store rfl (ty := 25) rfl rfl (cells_int _ _) 0 rfl (by with_reducible exact set_21 _ _ _) (by exact tu_s) (one_of rfl) (ble_le rfl) ?_ | refine H.store rfl (ty := 25) rfl rfl (cells_int _ _) 0 rfl (by with_reducible exact set_10 _ _) (by exact tu_s) (one_of rfl) (ble_le rfl) ?_ | refine H.store rfl (ty := 25) rfl rfl (cells_int _ _) 1 rfl (by with_reducible exact set_20 _ _ _) (by exact tu_s) (one_of rfl) (ble_le rfl) ?_ | refine H.store rfl (ty := 25) rfl rfl (cells_int _ _) 1 rfl (by with_reducible exact set_21 _ _ _) (by exact tu_s) (one_of rfl) (ble_le rfl) ?_ | refine H.store rfl (ty := 25) rfl rfl (cells_int _ _) 1 rfl (by with_reducible exact set_10 _ _) (by exact tu_s) (one_of rfl) (ble_le rfl) ?_); (intro w H; simp only [List.set_cons_zero, List.set_cons_succ] at H; simp only [Act.put, List.setIfInBounds_toArray, List.set_cons_zero, List.set_cons_succ, List.set_nil]))
    | (go_at_call 18; ((with_reducible refine (cI _).mono ?_); rintro e w ⟨rfl, hb⟩; replace H := H.call hb; clear hb))
    | (go_at_call 21; ((with_reducible refine (cC _).mono ?_); rintro e w' ⟨rfl, rfl⟩))
    | (go_at_call 41; ((with_reducible refine (cN _).mono ?_); rintro e w ⟨rfl, hb⟩; replace H := H.call hb; clear hb))
    | (go_at_call 53; ((with_reducible refine (cW _).mono ?_); rintro e w ⟨rfl, hb⟩; replace H := H.call hb; clear hb))
    )
  (first | refine bodyPost_ret (results_c rfl rfl (H.result 0 rfl Tryd.underlying27 rfl (by exact tB_s) (ext_2 _ _))) rfl ⟨?_, H.below⟩ | refine bodyPost_ret (results_c rfl rfl (H.result 1 rfl Tryd.underlying27 rfl (by exact tB_s) (ext_2 _ _))) rfl ⟨?_, H.below⟩)
  exact rfl
set_option maxHeartbeats 1600000 in
set_option maxRecDepth 100000 in
theorem shapeGreatest_2 (neg : Bool) (w : World) :
    Calls Tryd.prog 107 #[.int .u8 2, .bool neg] w fun e w' => e = .returned (BV (greatN 2 neg)) ∧ Below w.heap.size w w' := by
  have H := Own.start w
  have cI : ∀ w, Calls Tryd.prog 18 #[.int .u8 2, .bool false] w fun e w' => e = .returned (.agg #[.int .u64 0, .int .u64 31744]) ∧ Below w.heap.size w w' := fun w => shapeInf_any 2 false w (by decide)
  have cW : ∀ w, Calls Tryd.prog 53 #[.int .u8 2, .agg #[.int .u64 0, .int .u64 31743], .bool neg] w fun e w' => e = .returned (BV (greatN 2 neg)) ∧ Below w.heap.size w w' := by
    intro w
    have := shapeWith_any 2 31743 neg w (by decide)
    rw [or_sign 2 31743 neg (by decide)] at this
    exact this
  have cC : ∀ w, Calls Tryd.prog 21 #[.int .u8 2] w fun e w' => e = .returned (.int .i64 0) ∧ w = w' := fun w => shapeCheck_any 2 w (by decide)
  have cN : ∀ w, Calls Tryd.prog 41 #[.int .u8 2] w fun e w' => e = .returned (.int .i64 16) ∧ Below w.heap.size w w' := fun w => shapeWidth_any 2 w (by decide)
  go_enter Tryd.func107, Tryd.ntmps107
  go_wp2_with (first
    | ((with_reducible show wpList _ _ _ (⟨_, .box _ _, _, _, _, _⟩ :: _) _ _); refine H.box rfl rfl (cells_agg _) ?_; (intro g w H; simp only [Act.put, List.setIfInBounds_toArray, List.set_cons_zero, List.set_cons_succ, List.set_nil]))
    | ((with_reducible show wpList _ _ _ (⟨_, .alloc 27, _, _, _, _⟩ :: _) _ _); refine H.new rfl (T := 27) rfl tB_z (cells_agg _) ?_; (intro g w H; simp only [Act.put, List.setIfInBounds_toArray, List.set_cons_zero, List.set_cons_succ, List.set_nil]))
    | ((with_reducible show wpList _ _ _ (⟨_, .alloc 25, _, _, _, _⟩ :: _) _ _); refine H.new rfl (T := 25) rfl tu_z (cells_int _ _) ?_; (intro g w H; simp only [Act.put, List.setIfInBounds_toArray, List.set_cons_zero, List.set_cons_succ, List.set_nil]))
    | ((with_reducible show wpList _ _ _ (⟨_, .load 27 _, _, _, _, _⟩ :: _) _ _); (first | refine H.load rfl (ty := 27) rfl rfl 0 rfl Tryd.underlying27 rfl (by with_reducible exact ext_2 _ _) (by exact tB_s) ?_ | refine H.load rfl (ty := 27) rfl rfl 1 rfl Tryd.underlying27 rfl (by with_reducible exact ext_2 _ _) (by exact tB_s) ?_); simp only [Act.put, List.setIfInBounds_toArray, List.set_cons_zero, List.set_cons_succ, List.set_nil])
    | ((with_reducible show wpList _ _ _ (⟨_, .load 25 _, _, _, _, _⟩ :: _) _ _); (first | refine H.load1 rfl (ty := 25) rfl rfl 0 rfl Tryd.underlying25 rfl (by with_reducible exact get_20 _ _) ?_ | refine H.load1 rfl (ty := 25) rfl rfl 0 rfl Tryd.underlying25 rfl (by with_reducible exact get_21 _ _) ?_ | refine H.load1 rfl (ty := 25) rfl rfl 0 rfl Tryd.underlying25 rfl (by with_reducible exact limbs_o0 _) ?_ | refine H.load1 rfl (ty := 25) rfl rfl 0 rfl Tryd.underlying25 rfl (by with_reducible exact limbs_o1 _) ?_ | refine H.load1 rfl (ty := 25) rfl rfl 0 rfl Tryd.underlying25 rfl (by with_reducible exact limbs_o2 _) ?_ | refine H.load1 rfl (ty := 25) rfl rfl 0 rfl Tryd.underlying25 rfl (by with_reducible exact limbs_o3 _) ?_ | refine H.load1 rfl (ty := 25) rfl rfl 0 rfl Tryd.underlying25 rfl (by with_reducible exact limbs_o4 _) ?_ | refine H.load1 rfl (ty := 25) rfl rfl 0 rfl Tryd.underlying25 rfl (by with_reducible exact limbs_o5 _) ?_ | refine H.load1 rfl (ty := 25) rfl rfl 0 rfl Tryd.underlying25 rfl (by with_reducible exact get_10 _) ?_ | refine H.load1 rfl (ty := 25) rfl rfl 1 rfl Tryd.underlying25 rfl (by with_reducible exact get_20 _ _) ?_ | refine H.load1 rfl (ty := 25) rfl rfl 1 rfl Tryd.underlying25 rfl (by with_reducible exact get_21 _ _) ?_ | refine H.load1 rfl (ty := 25) rfl rfl 1 rfl Tryd.underlying25 rfl (by with_reducible exact limbs_o0 _) ?_ | refine H.load1 rfl (ty := 25) rfl rfl 1 rfl Tryd.underlying25 rfl (by with_reducible exact limbs_o1 _) ?_ | refine H.load1 rfl (ty := 25) rfl rfl 1 rfl Tryd.underlying25 rfl (by with_reducible exact limbs_o2 _) ?_ | refine H.load1 rfl (ty := 25) rfl rfl 1 rfl Tryd.underlying25 rfl (by with_reducible exact limbs_o3 _) ?_ | refine H.load1 rfl (ty := 25) rfl rfl 1 rfl Tryd.underlying25 rfl (by with_reducible exact limbs_o4 _) ?_ | refine H.load1 rfl (ty := 25) rfl rfl 1 rfl Tryd.underlying25 rfl (by with_reducible exact limbs_o5 _) ?_ | refine H.load1 rfl (ty := 25) rfl rfl 1 rfl Tryd.underlying25 rfl (by with_reducible exact get_10 _) ?_); simp only [Act.put, List.setIfInBounds_toArray, List.set_cons_zero, List.set_cons_succ, List.set_nil])
    | ((with_reducible show wpList _ _ _ (⟨_, .store 27 _ _, _, _, _, _⟩ :: _) _ _); (first | refine H.store rfl (ty := 27) rfl rfl (cells_agg _) 0 rfl (by with_reducible exact set_all _ _ rfl) (by exact tB_s) (one_of rfl) (ble_le rfl) ?_ | refine H.store rfl (ty := 27) rfl rfl (cells_agg _) 1 rfl (by with_reducible exact set_all _ _ rfl) (by exact tB_s) (one_of rfl) (ble_le rfl) ?_); (intro w H; simp only [List.set_cons_zero, List.set_cons_succ] at H; simp only [Act.put, List.setIfInBounds_toArray, List.set_cons_zero, List.set_cons_succ, List.set_nil]))
    | ((with_reducible show wpList _ _ _ (⟨_, .store 25 _ _, _, _, _, _⟩ :: _) _ _); (first | refine H.store rfl (ty := 25) rfl rfl (cells_int _ _) 0 rfl (by with_reducible exact set_20 _ _ _) (by exact tu_s) (one_of rfl) (ble_le rfl) ?_ | refine H.store rfl (ty := 25) rfl rfl (cells_int _ _) 0 rfl (by with_reducible exact set_21 _ _ _) (by exact tu_s) (one_of rfl) (ble_le rfl) ?_ | refine H.store rfl (ty := 25) rfl rfl (cells_int _ _) 0 rfl (by with_reducible exact set_10 _ _) (by exact tu_s) (one_of rfl) (ble_le rfl) ?_ | refine H.store rfl (ty := 25) rfl rfl (cells_int _ _) 1 rfl (by with_reducible exact set_20 _ _ _) (by exact tu_s) (one_of rfl) (ble_le rfl) ?_ | refine H.store rfl (ty := 25) rfl rfl (cells_int _ _) 1 rfl (by with_reducible exact set_21 _ _ _) (by exact tu_s) (one_of rfl) (ble_le rfl) ?_ | refine H.store rfl (ty := 25) rfl rfl (cells_int _ _) 1 rfl (by with_reducible exact set_10 _ _) (by exact tu_s) (one_of rfl) (ble_le rfl) ?_); (intro w H; simp only [List.set_cons_zero, List.set_cons_succ] at H; simp only [Act.put, List.setIfInBounds_toArray, List.set_cons_zero, List.set_cons_succ, List.set_nil]))
    | (go_at_call 18; ((with_reducible refine (cI _).mono ?_); rintro e w ⟨rfl, hb⟩; replace H := H.call hb; clear hb))
    | (go_at_call 21; ((with_reducible refine (cC _).mono ?_); rintro e w' ⟨rfl, rfl⟩))
    | (go_at_call 41; ((with_reducible refine (cN _).mono ?_); rintro e w ⟨rfl, hb⟩; replace H := H.call hb; clear hb))
    | (go_at_call 53; ((with_reducible refine (cW _).mono ?_); rintro e w ⟨rfl, hb⟩; replace H := H.call hb; clear hb))
    )
  (first | refine bodyPost_ret (results_c rfl rfl (H.result 0 rfl Tryd.underlying27 rfl (by exact tB_s) (ext_2 _ _))) rfl ⟨?_, H.below⟩ | refine bodyPost_ret (results_c rfl rfl (H.result 1 rfl Tryd.underlying27 rfl (by exact tB_s) (ext_2 _ _))) rfl ⟨?_, H.below⟩)
  exact rfl
set_option maxHeartbeats 1600000 in
set_option maxRecDepth 100000 in
theorem shapeGreatest_3 (neg : Bool) (w : World) :
    Calls Tryd.prog 107 #[.int .u8 3, .bool neg] w fun e w' => e = .returned (BV (greatN 3 neg)) ∧ Below w.heap.size w w' := by
  have H := Own.start w
  have cI : ∀ w, Calls Tryd.prog 18 #[.int .u8 3, .bool false] w fun e w' => e = .returned (.agg #[.int .u64 9223090561878065152, .int .u64 0]) ∧ Below w.heap.size w w' := fun w => shapeInf_any 3 false w (by decide)
  have cW : ∀ w, Calls Tryd.prog 53 #[.int .u8 3, .agg #[.int .u64 9223090561878065151, .int .u64 (IntKind.u64.wrap (-1))], .bool neg] w fun e w' => e = .returned (BV (greatN 3 neg)) ∧ Below w.heap.size w w' := by
    intro w
    have := shapeWith_any 3 170135991163610696904058773219554885631 neg w (by decide)
    rw [or_sign 3 170135991163610696904058773219554885631 neg (by decide)] at this
    exact this
  have cC : ∀ w, Calls Tryd.prog 21 #[.int .u8 3] w fun e w' => e = .returned (.int .i64 0) ∧ w = w' := fun w => shapeCheck_any 3 w (by decide)
  have cN : ∀ w, Calls Tryd.prog 41 #[.int .u8 3] w fun e w' => e = .returned (.int .i64 128) ∧ Below w.heap.size w w' := fun w => shapeWidth_any 3 w (by decide)
  go_enter Tryd.func107, Tryd.ntmps107
  go_wp2_with (first
    | ((with_reducible show wpList _ _ _ (⟨_, .box _ _, _, _, _, _⟩ :: _) _ _); refine H.box rfl rfl (cells_agg _) ?_; (intro g w H; simp only [Act.put, List.setIfInBounds_toArray, List.set_cons_zero, List.set_cons_succ, List.set_nil]))
    | ((with_reducible show wpList _ _ _ (⟨_, .alloc 27, _, _, _, _⟩ :: _) _ _); refine H.new rfl (T := 27) rfl tB_z (cells_agg _) ?_; (intro g w H; simp only [Act.put, List.setIfInBounds_toArray, List.set_cons_zero, List.set_cons_succ, List.set_nil]))
    | ((with_reducible show wpList _ _ _ (⟨_, .alloc 25, _, _, _, _⟩ :: _) _ _); refine H.new rfl (T := 25) rfl tu_z (cells_int _ _) ?_; (intro g w H; simp only [Act.put, List.setIfInBounds_toArray, List.set_cons_zero, List.set_cons_succ, List.set_nil]))
    | ((with_reducible show wpList _ _ _ (⟨_, .load 27 _, _, _, _, _⟩ :: _) _ _); (first | refine H.load rfl (ty := 27) rfl rfl 0 rfl Tryd.underlying27 rfl (by with_reducible exact ext_2 _ _) (by exact tB_s) ?_ | refine H.load rfl (ty := 27) rfl rfl 1 rfl Tryd.underlying27 rfl (by with_reducible exact ext_2 _ _) (by exact tB_s) ?_); simp only [Act.put, List.setIfInBounds_toArray, List.set_cons_zero, List.set_cons_succ, List.set_nil])
    | ((with_reducible show wpList _ _ _ (⟨_, .load 25 _, _, _, _, _⟩ :: _) _ _); (first | refine H.load1 rfl (ty := 25) rfl rfl 0 rfl Tryd.underlying25 rfl (by with_reducible exact get_20 _ _) ?_ | refine H.load1 rfl (ty := 25) rfl rfl 0 rfl Tryd.underlying25 rfl (by with_reducible exact get_21 _ _) ?_ | refine H.load1 rfl (ty := 25) rfl rfl 0 rfl Tryd.underlying25 rfl (by with_reducible exact limbs_o0 _) ?_ | refine H.load1 rfl (ty := 25) rfl rfl 0 rfl Tryd.underlying25 rfl (by with_reducible exact limbs_o1 _) ?_ | refine H.load1 rfl (ty := 25) rfl rfl 0 rfl Tryd.underlying25 rfl (by with_reducible exact limbs_o2 _) ?_ | refine H.load1 rfl (ty := 25) rfl rfl 0 rfl Tryd.underlying25 rfl (by with_reducible exact limbs_o3 _) ?_ | refine H.load1 rfl (ty := 25) rfl rfl 0 rfl Tryd.underlying25 rfl (by with_reducible exact limbs_o4 _) ?_ | refine H.load1 rfl (ty := 25) rfl rfl 0 rfl Tryd.underlying25 rfl (by with_reducible exact limbs_o5 _) ?_ | refine H.load1 rfl (ty := 25) rfl rfl 0 rfl Tryd.underlying25 rfl (by with_reducible exact get_10 _) ?_ | refine H.load1 rfl (ty := 25) rfl rfl 1 rfl Tryd.underlying25 rfl (by with_reducible exact get_20 _ _) ?_ | refine H.load1 rfl (ty := 25) rfl rfl 1 rfl Tryd.underlying25 rfl (by with_reducible exact get_21 _ _) ?_ | refine H.load1 rfl (ty := 25) rfl rfl 1 rfl Tryd.underlying25 rfl (by with_reducible exact limbs_o0 _) ?_ | refine H.load1 rfl (ty := 25) rfl rfl 1 rfl Tryd.underlying25 rfl (by with_reducible exact limbs_o1 _) ?_ | refine H.load1 rfl (ty := 25) rfl rfl 1 rfl Tryd.underlying25 rfl (by with_reducible exact limbs_o2 _) ?_ | refine H.load1 rfl (ty := 25) rfl rfl 1 rfl Tryd.underlying25 rfl (by with_reducible exact limbs_o3 _) ?_ | refine H.load1 rfl (ty := 25) rfl rfl 1 rfl Tryd.underlying25 rfl (by with_reducible exact limbs_o4 _) ?_ | refine H.load1 rfl (ty := 25) rfl rfl 1 rfl Tryd.underlying25 rfl (by with_reducible exact limbs_o5 _) ?_ | refine H.load1 rfl (ty := 25) rfl rfl 1 rfl Tryd.underlying25 rfl (by with_reducible exact get_10 _) ?_); simp only [Act.put, List.setIfInBounds_toArray, List.set_cons_zero, List.set_cons_succ, List.set_nil])
    | ((with_reducible show wpList _ _ _ (⟨_, .store 27 _ _, _, _, _, _⟩ :: _) _ _); (first | refine H.store rfl (ty := 27) rfl rfl (cells_agg _) 0 rfl (by with_reducible exact set_all _ _ rfl) (by exact tB_s) (one_of rfl) (ble_le rfl) ?_ | refine H.store rfl (ty := 27) rfl rfl (cells_agg _) 1 rfl (by with_reducible exact set_all _ _ rfl) (by exact tB_s) (one_of rfl) (ble_le rfl) ?_); (intro w H; simp only [List.set_cons_zero, List.set_cons_succ] at H; simp only [Act.put, List.setIfInBounds_toArray, List.set_cons_zero, List.set_cons_succ, List.set_nil]))
    | ((with_reducible show wpList _ _ _ (⟨_, .store 25 _ _, _, _, _, _⟩ :: _) _ _); (first | refine H.store rfl (ty := 25) rfl rfl (cells_int _ _) 0 rfl (by with_reducible exact set_20 _ _ _) (by exact tu_s) (one_of rfl) (ble_le rfl) ?_ | refine H.store rfl (ty := 25) rfl rfl (cells_int _ _) 0 rfl (by with_reducible exact set_21 _ _ _) (by exact tu_s) (one_of rfl) (ble_le rfl) ?_ | refine H.store rfl (ty := 25) rfl rfl (cells_int _ _) 0 rfl (by with_reducible exact set_10 _ _) (by exact tu_s) (one_of rfl) (ble_le rfl) ?_ | refine H.store rfl (ty := 25) rfl rfl (cells_int _ _) 1 rfl (by with_reducible exact set_20 _ _ _) (by exact tu_s) (one_of rfl) (ble_le rfl) ?_ | refine H.store rfl (ty := 25) rfl rfl (cells_int _ _) 1 rfl (by with_reducible exact set_21 _ _ _) (by exact tu_s) (one_of rfl) (ble_le rfl) ?_ | refine H.store rfl (ty := 25) rfl rfl (cells_int _ _) 1 rfl (by with_reducible exact set_10 _ _) (by exact tu_s) (one_of rfl) (ble_le rfl) ?_); (intro w H; simp only [List.set_cons_zero, List.set_cons_succ] at H; simp only [Act.put, List.setIfInBounds_toArray, List.set_cons_zero, List.set_cons_succ, List.set_nil]))
    | (go_at_call 18; ((with_reducible refine (cI _).mono ?_); rintro e w ⟨rfl, hb⟩; replace H := H.call hb; clear hb))
    | (go_at_call 21; ((with_reducible refine (cC _).mono ?_); rintro e w' ⟨rfl, rfl⟩))
    | (go_at_call 41; ((with_reducible refine (cN _).mono ?_); rintro e w ⟨rfl, hb⟩; replace H := H.call hb; clear hb))
    | (go_at_call 53; ((with_reducible refine (cW _).mono ?_); rintro e w ⟨rfl, hb⟩; replace H := H.call hb; clear hb))
    )
  (first | refine bodyPost_ret (results_c rfl rfl (H.result 0 rfl Tryd.underlying27 rfl (by exact tB_s) (ext_2 _ _))) rfl ⟨?_, H.below⟩ | refine bodyPost_ret (results_c rfl rfl (H.result 1 rfl Tryd.underlying27 rfl (by exact tB_s) (ext_2 _ _))) rfl ⟨?_, H.below⟩)
  exact rfl
set_option maxHeartbeats 1600000 in
set_option maxRecDepth 100000 in
theorem shapeGreatest_no (f : Nat) (neg : Bool) (w : World) (hf : f < 256) (h4 : ¬ f < 4) :
    Calls Tryd.prog 107 #[.int .u8 f, .bool neg] w fun e w' => e = .returned (BV (greatN f neg)) ∧ Below w.heap.size w w' := by
  have H := Own.start w
  rw [show greatN f neg = 0 by unfold greatN; rw [decide_eq_false h4]; rfl]
  have cI : ∀ w, Calls Tryd.prog 18 #[.int .u8 f, .bool false] w fun e w' => e = .returned (.agg #[.int .u64 0, .int .u64 0]) ∧ Below w.heap.size w w' := by
    intro w
    have := shapeInf_any f false w hf
    rw [show infN f false = 0 by unfold infN; rw [decide_eq_false h4]; rfl] at this
    exact this
  go_enter Tryd.func107, Tryd.ntmps107
  go_wp2_with (first
    | ((with_reducible show wpList _ _ _ (⟨_, .box _ _, _, _, _, _⟩ :: _) _ _); refine H.box rfl rfl (cells_agg _) ?_; (intro g w H; simp only [Act.put, List.setIfInBounds_toArray, List.set_cons_zero, List.set_cons_succ, List.set_nil]))
    | ((with_reducible show wpList _ _ _ (⟨_, .alloc 27, _, _, _, _⟩ :: _) _ _); refine H.new rfl (T := 27) rfl tB_z (cells_agg _) ?_; (intro g w H; simp only [Act.put, List.setIfInBounds_toArray, List.set_cons_zero, List.set_cons_succ, List.set_nil]))
    | ((with_reducible show wpList _ _ _ (⟨_, .alloc 25, _, _, _, _⟩ :: _) _ _); refine H.new rfl (T := 25) rfl tu_z (cells_int _ _) ?_; (intro g w H; simp only [Act.put, List.setIfInBounds_toArray, List.set_cons_zero, List.set_cons_succ, List.set_nil]))
    | ((with_reducible show wpList _ _ _ (⟨_, .load 27 _, _, _, _, _⟩ :: _) _ _); (first | refine H.load rfl (ty := 27) rfl rfl 0 rfl Tryd.underlying27 rfl (by with_reducible exact ext_2 _ _) (by exact tB_s) ?_ | refine H.load rfl (ty := 27) rfl rfl 1 rfl Tryd.underlying27 rfl (by with_reducible exact ext_2 _ _) (by exact tB_s) ?_); simp only [Act.put, List.setIfInBounds_toArray, List.set_cons_zero, List.set_cons_succ, List.set_nil])
    | ((with_reducible show wpList _ _ _ (⟨_, .load 25 _, _, _, _, _⟩ :: _) _ _); (first | refine H.load1 rfl (ty := 25) rfl rfl 0 rfl Tryd.underlying25 rfl (by with_reducible exact get_20 _ _) ?_ | refine H.load1 rfl (ty := 25) rfl rfl 0 rfl Tryd.underlying25 rfl (by with_reducible exact get_21 _ _) ?_ | refine H.load1 rfl (ty := 25) rfl rfl 0 rfl Tryd.underlying25 rfl (by with_reducible exact limbs_o0 _) ?_ | refine H.load1 rfl (ty := 25) rfl rfl 0 rfl Tryd.underlying25 rfl (by with_reducible exact limbs_o1 _) ?_ | refine H.load1 rfl (ty := 25) rfl rfl 0 rfl Tryd.underlying25 rfl (by with_reducible exact limbs_o2 _) ?_ | refine H.load1 rfl (ty := 25) rfl rfl 0 rfl Tryd.underlying25 rfl (by with_reducible exact limbs_o3 _) ?_ | refine H.load1 rfl (ty := 25) rfl rfl 0 rfl Tryd.underlying25 rfl (by with_reducible exact limbs_o4 _) ?_ | refine H.load1 rfl (ty := 25) rfl rfl 0 rfl Tryd.underlying25 rfl (by with_reducible exact limbs_o5 _) ?_ | refine H.load1 rfl (ty := 25) rfl rfl 0 rfl Tryd.underlying25 rfl (by with_reducible exact get_10 _) ?_ | refine H.load1 rfl (ty := 25) rfl rfl 1 rfl Tryd.underlying25 rfl (by with_reducible exact get_20 _ _) ?_ | refine H.load1 rfl (ty := 25) rfl rfl 1 rfl Tryd.underlying25 rfl (by with_reducible exact get_21 _ _) ?_ | refine H.load1 rfl (ty := 25) rfl rfl 1 rfl Tryd.underlying25 rfl (by with_reducible exact limbs_o0 _) ?_ | refine H.load1 rfl (ty := 25) rfl rfl 1 rfl Tryd.underlying25 rfl (by with_reducible exact limbs_o1 _) ?_ | refine H.load1 rfl (ty := 25) rfl rfl 1 rfl Tryd.underlying25 rfl (by with_reducible exact limbs_o2 _) ?_ | refine H.load1 rfl (ty := 25) rfl rfl 1 rfl Tryd.underlying25 rfl (by with_reducible exact limbs_o3 _) ?_ | refine H.load1 rfl (ty := 25) rfl rfl 1 rfl Tryd.underlying25 rfl (by with_reducible exact limbs_o4 _) ?_ | refine H.load1 rfl (ty := 25) rfl rfl 1 rfl Tryd.underlying25 rfl (by with_reducible exact limbs_o5 _) ?_ | refine H.load1 rfl (ty := 25) rfl rfl 1 rfl Tryd.underlying25 rfl (by with_reducible exact get_10 _) ?_); simp only [Act.put, List.setIfInBounds_toArray, List.set_cons_zero, List.set_cons_succ, List.set_nil])
    | ((with_reducible show wpList _ _ _ (⟨_, .store 27 _ _, _, _, _, _⟩ :: _) _ _); (first | refine H.store rfl (ty := 27) rfl rfl (cells_agg _) 0 rfl (by with_reducible exact set_all _ _ rfl) (by exact tB_s) (one_of rfl) (ble_le rfl) ?_ | refine H.store rfl (ty := 27) rfl rfl (cells_agg _) 1 rfl (by with_reducible exact set_all _ _ rfl) (by exact tB_s) (one_of rfl) (ble_le rfl) ?_); (intro w H; simp only [List.set_cons_zero, List.set_cons_succ] at H; simp only [Act.put, List.setIfInBounds_toArray, List.set_cons_zero, List.set_cons_succ, List.set_nil]))
    | ((with_reducible show wpList _ _ _ (⟨_, .store 25 _ _, _, _, _, _⟩ :: _) _ _); (first | refine H.store rfl (ty := 25) rfl rfl (cells_int _ _) 0 rfl (by with_reducible exact set_20 _ _ _) (by exact tu_s) (one_of rfl) (ble_le rfl) ?_ | refine H.store rfl (ty := 25) rfl rfl (cells_int _ _) 0 rfl (by with_reducible exact set_21 _ _ _) (by exact tu_s) (one_of rfl) (ble_le rfl) ?_ | refine H.store rfl (ty := 25) rfl rfl (cells_int _ _) 0 rfl (by with_reducible exact set_10 _ _) (by exact tu_s) (one_of rfl) (ble_le rfl) ?_ | refine H.store rfl (ty := 25) rfl rfl (cells_int _ _) 1 rfl (by with_reducible exact set_20 _ _ _) (by exact tu_s) (one_of rfl) (ble_le rfl) ?_ | refine H.store rfl (ty := 25) rfl rfl (cells_int _ _) 1 rfl (by with_reducible exact set_21 _ _ _) (by exact tu_s) (one_of rfl) (ble_le rfl) ?_ | refine H.store rfl (ty := 25) rfl rfl (cells_int _ _) 1 rfl (by with_reducible exact set_10 _ _) (by exact tu_s) (one_of rfl) (ble_le rfl) ?_); (intro w H; simp only [List.set_cons_zero, List.set_cons_succ] at H; simp only [Act.put, List.setIfInBounds_toArray, List.set_cons_zero, List.set_cons_succ, List.set_nil]))
    | (go_at_call 18; ((with_reducible refine (cI _).mono ?_); rintro e w ⟨rfl, hb⟩; replace H := H.call hb; clear hb))
    )
  (first | refine bodyPost_ret (results_c rfl rfl (H.result 0 rfl Tryd.underlying27 rfl (by exact tB_s) (ext_2 _ _))) rfl ⟨?_, H.below⟩ | refine bodyPost_ret (results_c rfl rfl (H.result 1 rfl Tryd.underlying27 rfl (by exact tB_s) (ext_2 _ _))) rfl ⟨?_, H.below⟩)
  exact rfl
theorem shapeGreatest_any (f : Nat) (neg : Bool) (w : World) (hf : f < 256) :
    Calls Tryd.prog 107 #[.int .u8 f, .bool neg] w fun e w' => e = .returned (BV (greatN f neg)) ∧ Below w.heap.size w w' := by
  rcases forms f with rfl | rfl | rfl | rfl | h
  · exact shapeGreatest_0 neg w
  · exact shapeGreatest_1 neg w
  · exact shapeGreatest_2 neg w
  · exact shapeGreatest_3 neg w
  · exact shapeGreatest_no f neg w hf (by omega)
set_option maxHeartbeats 1600000 in
set_option maxRecDepth 100000 in
theorem roundRight_no (f m : Nat) (w : World) (hf : f < 256) (h4 : ¬ f < 4) :
    Calls Tryd.prog 85 #[.int .u8 f, .int .u8 m] w fun e w' => e = .returned (.bool false) ∧ w = w' := by
  go_enter Tryd.func85, Tryd.ntmps85
  go_wp2_with (first | (go_at_call 21; ((with_reducible refine (shapeCheck_any f _ hf).mono ?_); rw [decide_eq_false h4]; rintro e w' ⟨rfl, rfl⟩)))
  go_ret
  exact ⟨rfl, rfl⟩
set_option maxHeartbeats 1600000 in
set_option maxRecDepth 100000 in
theorem roundRight_yes (f m : Nat) (w : World) (hf : f < 256) (hm : m < 256) (h4 : f < 4) :
    Calls Tryd.prog 85 #[.int .u8 f, .int .u8 m] w fun e w' => e = .returned (.bool (decide (m < 5))) ∧ w = w' := by
  by_cases h5 : m < 5
  · rw [decide_eq_true h5]
    go_enter Tryd.func85, Tryd.ntmps85
    go_wp2_with (first | (go_at_call 21; ((with_reducible refine (shapeCheck_any f _ hf).mono ?_); rw [decide_eq_true h4]; rintro e w' ⟨rfl, rfl⟩)) | (go_at_call 9; ((with_reducible refine (shapeCheckMode_any m _ hm).mono ?_); rw [decide_eq_true h5]; rintro e w' ⟨rfl, rfl⟩)))
    go_ret
    exact ⟨rfl, rfl⟩
  rw [decide_eq_false h5]
  go_enter Tryd.func85, Tryd.ntmps85
  go_wp2_with (first | (go_at_call 21; ((with_reducible refine (shapeCheck_any f _ hf).mono ?_); rw [decide_eq_true h4]; rintro e w' ⟨rfl, rfl⟩)) | (go_at_call 9; ((with_reducible refine (shapeCheckMode_any m _ hm).mono ?_); rw [decide_eq_false h5]; rintro e w' ⟨rfl, rfl⟩)))
  go_ret
  exact ⟨rfl, rfl⟩
theorem roundRight_any (f m : Nat) (w : World) (hf : f < 256) (hm : m < 256) :
    Calls Tryd.prog 85 #[.int .u8 f, .int .u8 m] w fun e w' => e = .returned (.bool (decide (f < 4) && decide (m < 5))) ∧ w = w' := by
  by_cases h4 : f < 4
  · rw [decide_eq_true h4, Bool.true_and]; exact roundRight_yes f m w hf hm h4
  · rw [decide_eq_false h4, Bool.false_and]; exact roundRight_no f m w hf h4
set_option maxHeartbeats 1600000 in
set_option maxRecDepth 100000 in
theorem roundOver_0 (f : Nat) (neg : Bool) (w : World) (hf : f < 256) (cR : ∀ w, Calls Tryd.prog 85 #[.int .u8 f, .int .u8 0] w fun e w' => e = .returned (.bool true) ∧ w = w') :
    Calls Tryd.prog 87 #[.int .u8 f, .int .u8 0, .bool neg] w fun e w' => e = .returned (.tuple #[BV (infN f neg), .int .u8 5, .int .i64 0]) ∧ Below w.heap.size w w' := by
  have H := Own.start w
  go_enter Tryd.func87, Tryd.ntmps87
  go_wp2_with (first
    | ((with_reducible show wpList _ _ _ (⟨_, .box _ _, _, _, _, _⟩ :: _) _ _); refine H.box rfl rfl (cells_agg _) ?_; (intro g w H; simp only [Act.put, List.setIfInBounds_toArray, List.set_cons_zero, List.set_cons_succ, List.set_nil]))
    | ((with_reducible show wpList _ _ _ (⟨_, .alloc 27, _, _, _, _⟩ :: _) _ _); refine H.new rfl (T := 27) rfl tB_z (cells_agg _) ?_; (intro g w H; simp only [Act.put, List.setIfInBounds_toArray, List.set_cons_zero, List.set_cons_succ, List.set_nil]))
    | ((with_reducible show wpList _ _ _ (⟨_, .load 27 _, _, _, _, _⟩ :: _) _ _); refine H.load rfl (ty := 27) rfl rfl 0 rfl Tryd.underlying27 rfl (by with_reducible exact ext_2 _ _) (by exact tB_s) ?_; simp only [Act.put, List.setIfInBounds_toArray, List.set_cons_zero, List.set_cons_succ, List.set_nil])
    | ((with_reducible show wpList _ _ _ (⟨_, .store 27 _ _, _, _, _, _⟩ :: _) _ _); refine H.store rfl (ty := 27) rfl rfl (cells_agg _) 0 rfl (by with_reducible exact set_all _ _ rfl) (by exact tB_s) (one_of rfl) (ble_le rfl) ?_; (intro w H; simp only [List.set_cons_zero, List.set_cons_succ] at H; simp only [Act.put, List.setIfInBounds_toArray, List.set_cons_zero, List.set_cons_succ, List.set_nil]))
    | (go_at_call 85; ((with_reducible refine (cR _).mono ?_); rintro e w' ⟨rfl, rfl⟩))
    | (go_at_call 107; ((with_reducible refine (shapeGreatest_any f neg _ hf).mono ?_); rintro e w ⟨rfl, hb⟩; replace H := H.call hb; clear hb))
    | (go_at_call 18; ((with_reducible refine (shapeInf_any f neg _ hf).mono ?_); rintro e w ⟨rfl, hb⟩; replace H := H.call hb; clear hb))
    )
  refine bodyPost_ret (results_ctt rfl rfl (H.result 0 rfl Tryd.underlying27 rfl (by exact tB_s) (ext_2 _ _))) rfl ⟨?_, H.below⟩
  exact rfl
set_option maxHeartbeats 1600000 in
set_option maxRecDepth 100000 in
theorem roundOver_1 (f : Nat) (neg : Bool) (w : World) (hf : f < 256) (cR : ∀ w, Calls Tryd.prog 85 #[.int .u8 f, .int .u8 1] w fun e w' => e = .returned (.bool true) ∧ w = w') :
    Calls Tryd.prog 87 #[.int .u8 f, .int .u8 1, .bool neg] w fun e w' => e = .returned (.tuple #[BV (greatN f neg), .int .u8 5, .int .i64 0]) ∧ Below w.heap.size w w' := by
  have H := Own.start w
  go_enter Tryd.func87, Tryd.ntmps87
  go_wp2_with (first
    | ((with_reducible show wpList _ _ _ (⟨_, .box _ _, _, _, _, _⟩ :: _) _ _); refine H.box rfl rfl (cells_agg _) ?_; (intro g w H; simp only [Act.put, List.setIfInBounds_toArray, List.set_cons_zero, List.set_cons_succ, List.set_nil]))
    | ((with_reducible show wpList _ _ _ (⟨_, .alloc 27, _, _, _, _⟩ :: _) _ _); refine H.new rfl (T := 27) rfl tB_z (cells_agg _) ?_; (intro g w H; simp only [Act.put, List.setIfInBounds_toArray, List.set_cons_zero, List.set_cons_succ, List.set_nil]))
    | ((with_reducible show wpList _ _ _ (⟨_, .load 27 _, _, _, _, _⟩ :: _) _ _); refine H.load rfl (ty := 27) rfl rfl 0 rfl Tryd.underlying27 rfl (by with_reducible exact ext_2 _ _) (by exact tB_s) ?_; simp only [Act.put, List.setIfInBounds_toArray, List.set_cons_zero, List.set_cons_succ, List.set_nil])
    | ((with_reducible show wpList _ _ _ (⟨_, .store 27 _ _, _, _, _, _⟩ :: _) _ _); refine H.store rfl (ty := 27) rfl rfl (cells_agg _) 0 rfl (by with_reducible exact set_all _ _ rfl) (by exact tB_s) (one_of rfl) (ble_le rfl) ?_; (intro w H; simp only [List.set_cons_zero, List.set_cons_succ] at H; simp only [Act.put, List.setIfInBounds_toArray, List.set_cons_zero, List.set_cons_succ, List.set_nil]))
    | (go_at_call 85; ((with_reducible refine (cR _).mono ?_); rintro e w' ⟨rfl, rfl⟩))
    | (go_at_call 107; ((with_reducible refine (shapeGreatest_any f neg _ hf).mono ?_); rintro e w ⟨rfl, hb⟩; replace H := H.call hb; clear hb))
    | (go_at_call 18; ((with_reducible refine (shapeInf_any f neg _ hf).mono ?_); rintro e w ⟨rfl, hb⟩; replace H := H.call hb; clear hb))
    )
  refine bodyPost_ret (results_ctt rfl rfl (H.result 0 rfl Tryd.underlying27 rfl (by exact tB_s) (ext_2 _ _))) rfl ⟨?_, H.below⟩
  exact rfl
set_option maxHeartbeats 1600000 in
set_option maxRecDepth 100000 in
theorem roundOver_2t (f : Nat) (w : World) (hf : f < 256) (cR : ∀ w, Calls Tryd.prog 85 #[.int .u8 f, .int .u8 2] w fun e w' => e = .returned (.bool true) ∧ w = w') :
    Calls Tryd.prog 87 #[.int .u8 f, .int .u8 2, .bool true] w fun e w' => e = .returned (.tuple #[BV (infN f true), .int .u8 5, .int .i64 0]) ∧ Below w.heap.size w w' := by
  have H := Own.start w
  go_enter Tryd.func87, Tryd.ntmps87
  go_wp2_with (first
    | ((with_reducible show wpList _ _ _ (⟨_, .box _ _, _, _, _, _⟩ :: _) _ _); refine H.box rfl rfl (cells_agg _) ?_; (intro g w H; simp only [Act.put, List.setIfInBounds_toArray, List.set_cons_zero, List.set_cons_succ, List.set_nil]))
    | ((with_reducible show wpList _ _ _ (⟨_, .alloc 27, _, _, _, _⟩ :: _) _ _); refine H.new rfl (T := 27) rfl tB_z (cells_agg _) ?_; (intro g w H; simp only [Act.put, List.setIfInBounds_toArray, List.set_cons_zero, List.set_cons_succ, List.set_nil]))
    | ((with_reducible show wpList _ _ _ (⟨_, .load 27 _, _, _, _, _⟩ :: _) _ _); refine H.load rfl (ty := 27) rfl rfl 0 rfl Tryd.underlying27 rfl (by with_reducible exact ext_2 _ _) (by exact tB_s) ?_; simp only [Act.put, List.setIfInBounds_toArray, List.set_cons_zero, List.set_cons_succ, List.set_nil])
    | ((with_reducible show wpList _ _ _ (⟨_, .store 27 _ _, _, _, _, _⟩ :: _) _ _); refine H.store rfl (ty := 27) rfl rfl (cells_agg _) 0 rfl (by with_reducible exact set_all _ _ rfl) (by exact tB_s) (one_of rfl) (ble_le rfl) ?_; (intro w H; simp only [List.set_cons_zero, List.set_cons_succ] at H; simp only [Act.put, List.setIfInBounds_toArray, List.set_cons_zero, List.set_cons_succ, List.set_nil]))
    | (go_at_call 85; ((with_reducible refine (cR _).mono ?_); rintro e w' ⟨rfl, rfl⟩))
    | (go_at_call 107; ((with_reducible refine (shapeGreatest_any f true _ hf).mono ?_); rintro e w ⟨rfl, hb⟩; replace H := H.call hb; clear hb))
    | (go_at_call 18; ((with_reducible refine (shapeInf_any f true _ hf).mono ?_); rintro e w ⟨rfl, hb⟩; replace H := H.call hb; clear hb))
    )
  refine bodyPost_ret (results_ctt rfl rfl (H.result 0 rfl Tryd.underlying27 rfl (by exact tB_s) (ext_2 _ _))) rfl ⟨?_, H.below⟩
  exact rfl
set_option maxHeartbeats 1600000 in
set_option maxRecDepth 100000 in
theorem roundOver_2f (f : Nat) (w : World) (hf : f < 256) (cR : ∀ w, Calls Tryd.prog 85 #[.int .u8 f, .int .u8 2] w fun e w' => e = .returned (.bool true) ∧ w = w') :
    Calls Tryd.prog 87 #[.int .u8 f, .int .u8 2, .bool false] w fun e w' => e = .returned (.tuple #[BV (greatN f false), .int .u8 5, .int .i64 0]) ∧ Below w.heap.size w w' := by
  have H := Own.start w
  go_enter Tryd.func87, Tryd.ntmps87
  go_wp2_with (first
    | ((with_reducible show wpList _ _ _ (⟨_, .box _ _, _, _, _, _⟩ :: _) _ _); refine H.box rfl rfl (cells_agg _) ?_; (intro g w H; simp only [Act.put, List.setIfInBounds_toArray, List.set_cons_zero, List.set_cons_succ, List.set_nil]))
    | ((with_reducible show wpList _ _ _ (⟨_, .alloc 27, _, _, _, _⟩ :: _) _ _); refine H.new rfl (T := 27) rfl tB_z (cells_agg _) ?_; (intro g w H; simp only [Act.put, List.setIfInBounds_toArray, List.set_cons_zero, List.set_cons_succ, List.set_nil]))
    | ((with_reducible show wpList _ _ _ (⟨_, .load 27 _, _, _, _, _⟩ :: _) _ _); refine H.load rfl (ty := 27) rfl rfl 0 rfl Tryd.underlying27 rfl (by with_reducible exact ext_2 _ _) (by exact tB_s) ?_; simp only [Act.put, List.setIfInBounds_toArray, List.set_cons_zero, List.set_cons_succ, List.set_nil])
    | ((with_reducible show wpList _ _ _ (⟨_, .store 27 _ _, _, _, _, _⟩ :: _) _ _); refine H.store rfl (ty := 27) rfl rfl (cells_agg _) 0 rfl (by with_reducible exact set_all _ _ rfl) (by exact tB_s) (one_of rfl) (ble_le rfl) ?_; (intro w H; simp only [List.set_cons_zero, List.set_cons_succ] at H; simp only [Act.put, List.setIfInBounds_toArray, List.set_cons_zero, List.set_cons_succ, List.set_nil]))
    | (go_at_call 85; ((with_reducible refine (cR _).mono ?_); rintro e w' ⟨rfl, rfl⟩))
    | (go_at_call 107; ((with_reducible refine (shapeGreatest_any f false _ hf).mono ?_); rintro e w ⟨rfl, hb⟩; replace H := H.call hb; clear hb))
    | (go_at_call 18; ((with_reducible refine (shapeInf_any f false _ hf).mono ?_); rintro e w ⟨rfl, hb⟩; replace H := H.call hb; clear hb))
    )
  refine bodyPost_ret (results_ctt rfl rfl (H.result 0 rfl Tryd.underlying27 rfl (by exact tB_s) (ext_2 _ _))) rfl ⟨?_, H.below⟩
  exact rfl
set_option maxHeartbeats 1600000 in
set_option maxRecDepth 100000 in
theorem roundOver_3t (f : Nat) (w : World) (hf : f < 256) (cR : ∀ w, Calls Tryd.prog 85 #[.int .u8 f, .int .u8 3] w fun e w' => e = .returned (.bool true) ∧ w = w') :
    Calls Tryd.prog 87 #[.int .u8 f, .int .u8 3, .bool true] w fun e w' => e = .returned (.tuple #[BV (greatN f true), .int .u8 5, .int .i64 0]) ∧ Below w.heap.size w w' := by
  have H := Own.start w
  go_enter Tryd.func87, Tryd.ntmps87
  go_wp2_with (first
    | ((with_reducible show wpList _ _ _ (⟨_, .box _ _, _, _, _, _⟩ :: _) _ _); refine H.box rfl rfl (cells_agg _) ?_; (intro g w H; simp only [Act.put, List.setIfInBounds_toArray, List.set_cons_zero, List.set_cons_succ, List.set_nil]))
    | ((with_reducible show wpList _ _ _ (⟨_, .alloc 27, _, _, _, _⟩ :: _) _ _); refine H.new rfl (T := 27) rfl tB_z (cells_agg _) ?_; (intro g w H; simp only [Act.put, List.setIfInBounds_toArray, List.set_cons_zero, List.set_cons_succ, List.set_nil]))
    | ((with_reducible show wpList _ _ _ (⟨_, .load 27 _, _, _, _, _⟩ :: _) _ _); refine H.load rfl (ty := 27) rfl rfl 0 rfl Tryd.underlying27 rfl (by with_reducible exact ext_2 _ _) (by exact tB_s) ?_; simp only [Act.put, List.setIfInBounds_toArray, List.set_cons_zero, List.set_cons_succ, List.set_nil])
    | ((with_reducible show wpList _ _ _ (⟨_, .store 27 _ _, _, _, _, _⟩ :: _) _ _); refine H.store rfl (ty := 27) rfl rfl (cells_agg _) 0 rfl (by with_reducible exact set_all _ _ rfl) (by exact tB_s) (one_of rfl) (ble_le rfl) ?_; (intro w H; simp only [List.set_cons_zero, List.set_cons_succ] at H; simp only [Act.put, List.setIfInBounds_toArray, List.set_cons_zero, List.set_cons_succ, List.set_nil]))
    | (go_at_call 85; ((with_reducible refine (cR _).mono ?_); rintro e w' ⟨rfl, rfl⟩))
    | (go_at_call 107; ((with_reducible refine (shapeGreatest_any f true _ hf).mono ?_); rintro e w ⟨rfl, hb⟩; replace H := H.call hb; clear hb))
    | (go_at_call 18; ((with_reducible refine (shapeInf_any f true _ hf).mono ?_); rintro e w ⟨rfl, hb⟩; replace H := H.call hb; clear hb))
    )
  refine bodyPost_ret (results_ctt rfl rfl (H.result 0 rfl Tryd.underlying27 rfl (by exact tB_s) (ext_2 _ _))) rfl ⟨?_, H.below⟩
  exact rfl
set_option maxHeartbeats 1600000 in
set_option maxRecDepth 100000 in
theorem roundOver_3f (f : Nat) (w : World) (hf : f < 256) (cR : ∀ w, Calls Tryd.prog 85 #[.int .u8 f, .int .u8 3] w fun e w' => e = .returned (.bool true) ∧ w = w') :
    Calls Tryd.prog 87 #[.int .u8 f, .int .u8 3, .bool false] w fun e w' => e = .returned (.tuple #[BV (infN f false), .int .u8 5, .int .i64 0]) ∧ Below w.heap.size w w' := by
  have H := Own.start w
  go_enter Tryd.func87, Tryd.ntmps87
  go_wp2_with (first
    | ((with_reducible show wpList _ _ _ (⟨_, .box _ _, _, _, _, _⟩ :: _) _ _); refine H.box rfl rfl (cells_agg _) ?_; (intro g w H; simp only [Act.put, List.setIfInBounds_toArray, List.set_cons_zero, List.set_cons_succ, List.set_nil]))
    | ((with_reducible show wpList _ _ _ (⟨_, .alloc 27, _, _, _, _⟩ :: _) _ _); refine H.new rfl (T := 27) rfl tB_z (cells_agg _) ?_; (intro g w H; simp only [Act.put, List.setIfInBounds_toArray, List.set_cons_zero, List.set_cons_succ, List.set_nil]))
    | ((with_reducible show wpList _ _ _ (⟨_, .load 27 _, _, _, _, _⟩ :: _) _ _); refine H.load rfl (ty := 27) rfl rfl 0 rfl Tryd.underlying27 rfl (by with_reducible exact ext_2 _ _) (by exact tB_s) ?_; simp only [Act.put, List.setIfInBounds_toArray, List.set_cons_zero, List.set_cons_succ, List.set_nil])
    | ((with_reducible show wpList _ _ _ (⟨_, .store 27 _ _, _, _, _, _⟩ :: _) _ _); refine H.store rfl (ty := 27) rfl rfl (cells_agg _) 0 rfl (by with_reducible exact set_all _ _ rfl) (by exact tB_s) (one_of rfl) (ble_le rfl) ?_; (intro w H; simp only [List.set_cons_zero, List.set_cons_succ] at H; simp only [Act.put, List.setIfInBounds_toArray, List.set_cons_zero, List.set_cons_succ, List.set_nil]))
    | (go_at_call 85; ((with_reducible refine (cR _).mono ?_); rintro e w' ⟨rfl, rfl⟩))
    | (go_at_call 107; ((with_reducible refine (shapeGreatest_any f false _ hf).mono ?_); rintro e w ⟨rfl, hb⟩; replace H := H.call hb; clear hb))
    | (go_at_call 18; ((with_reducible refine (shapeInf_any f false _ hf).mono ?_); rintro e w ⟨rfl, hb⟩; replace H := H.call hb; clear hb))
    )
  refine bodyPost_ret (results_ctt rfl rfl (H.result 0 rfl Tryd.underlying27 rfl (by exact tB_s) (ext_2 _ _))) rfl ⟨?_, H.below⟩
  exact rfl
set_option maxHeartbeats 1600000 in
set_option maxRecDepth 100000 in
theorem roundOver_4 (f : Nat) (neg : Bool) (w : World) (hf : f < 256) (cR : ∀ w, Calls Tryd.prog 85 #[.int .u8 f, .int .u8 4] w fun e w' => e = .returned (.bool true) ∧ w = w') :
    Calls Tryd.prog 87 #[.int .u8 f, .int .u8 4, .bool neg] w fun e w' => e = .returned (.tuple #[BV (infN f neg), .int .u8 5, .int .i64 0]) ∧ Below w.heap.size w w' := by
  have H := Own.start w
  go_enter Tryd.func87, Tryd.ntmps87
  go_wp2_with (first
    | ((with_reducible show wpList _ _ _ (⟨_, .box _ _, _, _, _, _⟩ :: _) _ _); refine H.box rfl rfl (cells_agg _) ?_; (intro g w H; simp only [Act.put, List.setIfInBounds_toArray, List.set_cons_zero, List.set_cons_succ, List.set_nil]))
    | ((with_reducible show wpList _ _ _ (⟨_, .alloc 27, _, _, _, _⟩ :: _) _ _); refine H.new rfl (T := 27) rfl tB_z (cells_agg _) ?_; (intro g w H; simp only [Act.put, List.setIfInBounds_toArray, List.set_cons_zero, List.set_cons_succ, List.set_nil]))
    | ((with_reducible show wpList _ _ _ (⟨_, .load 27 _, _, _, _, _⟩ :: _) _ _); refine H.load rfl (ty := 27) rfl rfl 0 rfl Tryd.underlying27 rfl (by with_reducible exact ext_2 _ _) (by exact tB_s) ?_; simp only [Act.put, List.setIfInBounds_toArray, List.set_cons_zero, List.set_cons_succ, List.set_nil])
    | ((with_reducible show wpList _ _ _ (⟨_, .store 27 _ _, _, _, _, _⟩ :: _) _ _); refine H.store rfl (ty := 27) rfl rfl (cells_agg _) 0 rfl (by with_reducible exact set_all _ _ rfl) (by exact tB_s) (one_of rfl) (ble_le rfl) ?_; (intro w H; simp only [List.set_cons_zero, List.set_cons_succ] at H; simp only [Act.put, List.setIfInBounds_toArray, List.set_cons_zero, List.set_cons_succ, List.set_nil]))
    | (go_at_call 85; ((with_reducible refine (cR _).mono ?_); rintro e w' ⟨rfl, rfl⟩))
    | (go_at_call 107; ((with_reducible refine (shapeGreatest_any f neg _ hf).mono ?_); rintro e w ⟨rfl, hb⟩; replace H := H.call hb; clear hb))
    | (go_at_call 18; ((with_reducible refine (shapeInf_any f neg _ hf).mono ?_); rintro e w ⟨rfl, hb⟩; replace H := H.call hb; clear hb))
    )
  refine bodyPost_ret (results_ctt rfl rfl (H.result 0 rfl Tryd.underlying27 rfl (by exact tB_s) (ext_2 _ _))) rfl ⟨?_, H.below⟩
  exact rfl
theorem roundOver_any (f m : Nat) (neg : Bool) (w : World) (hf : f < 4) (hm : m < 5) :
    Calls Tryd.prog 87 #[.int .u8 f, .int .u8 m, .bool neg] w fun e w' => e = .returned (.tuple #[BV (overN f m neg), .int .u8 5, .int .i64 0]) ∧ Below w.heap.size w w' := by
  have cR := fun w => roundRight_any f m w (by omega) (by omega)
  rw [decide_eq_true hf, decide_eq_true hm] at cR
  have : m = 0 ∨ m = 1 ∨ m = 2 ∨ m = 3 ∨ m = 4 := by omega
  rcases this with rfl | rfl | rfl | rfl | rfl
  · exact roundOver_0 f neg w (by omega) cR
  · exact roundOver_1 f neg w (by omega) cR
  · cases neg
    · exact roundOver_2f f w (by omega) cR
    · exact roundOver_2t f w (by omega) cR
  · cases neg
    · exact roundOver_3f f w (by omega) cR
    · exact roundOver_3t f w (by omega) cR
  · exact roundOver_4 f neg w (by omega) cR
end Go.Proofs.YtdcgcjmajacgiaaDoor

namespace Go.Proofs.YtdcgcjmajacgiaaDoor
open Go.RowKit
theorem set_bits (a b c d : Value) : setRow #[a, b] 0 (#[c, d] : Array Value).toList = #[c, d] := set_all _ _ rfl
set_option maxRecDepth 100000 in
theorem walk89 {P : Prop} (h : P := by
  go_wp2_with (first
    | ((with_reducible show wpList _ _ _ (⟨_, .box _ _, _, _, _, _⟩ :: _) _ _); refine H.box rfl rfl (cells_agg _) ?_; (intro g w H; simp only [Act.put, List.setIfInBounds_toArray, List.set_cons_zero, List.set_cons_succ]))
    | ((with_reducible show wpList _ _ _ (⟨_, .load 57 _, _, _, _, _⟩ :: _) _ _); refine H.ld rfl rR rfl rfl (by repeat (first | with_reducible exact List.mem_cons_self | apply List.mem_cons_of_mem)) (by first | with_reducible exact ext_rough _ _ _ _) (by rfl) ?_; simp only [Act.put, List.setIfInBounds_toArray, List.set_cons_zero, List.set_cons_succ])
    | ((with_reducible show wpList _ _ _ (⟨_, .store 57 _ _, _, _, _, _⟩ :: _) _ _); refine H.st rfl rR rfl rfl (cells_agg _) (by repeat (first | with_reducible exact Upd.head _ | apply Upd.tail)) (by first | with_reducible exact set_all _ _ rfl) (by rfl) (by exact one_of rfl) (by first | exact ble_le rfl | (change _ + 1 ≤ 12; omega) | (change _ + 1 ≤ 6; omega)) ?_; (intro w H; simp only [Act.put]))
    | ((with_reducible show wpList _ _ _ (⟨_, .alloc 54, _, _, _, _⟩ :: _) _ _); refine H.mk0 rfl rW rfl ?_; (intro g w H; simp only [Act.put, List.setIfInBounds_toArray, List.set_cons_zero, List.set_cons_succ]))
    | ((with_reducible show wpList _ _ _ (⟨_, .load 54 _, _, _, _, _⟩ :: _) _ _); refine H.ld rfl rW rfl rfl (by repeat (first | with_reducible exact List.mem_cons_self | apply List.mem_cons_of_mem)) (by first | with_reducible exact ext_limbs _ | with_reducible exact ext_parts_s _ _ _ _ | with_reducible exact ext_rough_s _ _ _ _ | with_reducible exact ext_parts_f _ _ _ _) (by rfl) ?_; simp only [Act.put, List.setIfInBounds_toArray, List.set_cons_zero, List.set_cons_succ])
    | ((with_reducible show wpList _ _ _ (⟨_, .store 54 _ _, _, _, _, _⟩ :: _) _ _); refine H.st rfl rW rfl rfl (cells_agg _) (by repeat (first | with_reducible exact Upd.head _ | apply Upd.tail)) (set_limbs _ _) (by rfl) (by exact one_of rfl) (by first | exact ble_le rfl | (change _ + 1 ≤ 12; omega) | (change _ + 1 ≤ 6; omega)) ?_; (intro w H; simp only [Act.put]))
    | (go_at_call 86; ((with_reducible refine (cE _).mono ?_); rintro e w ⟨rfl, hb⟩; replace H := H.call hb; clear hb))
    | (go_at_call 65; ((with_reducible refine (cP _).mono ?_); rintro e w ⟨rfl, hb⟩; replace H := H.call hb; clear hb))
    | (go_at_call 88; ((with_reducible refine (cG _ (HT.out.below H.below)).mono ?_); rintro e w ⟨rfl, hb⟩; replace H := H.call hb; clear hb))
    | (go_at_call 78; ((with_reducible refine (cK _).mono ?_); rintro e w ⟨rfl, hb⟩; replace H := H.call hb; clear hb))
    )
  all_goals (go_ret; exact ⟨rfl, H.below⟩)) : P := h
set_option maxHeartbeats 1600000 in
set_option maxRecDepth 100000 in
theorem roundTiny_ne (f m s p : Nat) (e top lo : Int) (neg mo : Bool) (w : World) (hT : Tab w) (hp : p ≤ 113) (l1 : -20000 ≤ lo) (l2 : lo ≤ 20000) (t1 : -1100000 ≤ top) (t2 : top ≤ 1100000) (hne : (top == lo - 1) = false) (cE : ∀ w, Calls Tryd.prog 86 #[.int .u8 f] w fun e w' => e = .returned (.int .i64 lo) ∧ Below w.heap.size w w') (cP : ∀ w, Calls Tryd.prog 65 #[.int .u8 f] w fun e w' => e = .returned (.int .i64 (p : Nat)) ∧ Below w.heap.size w w') :
    Calls Tryd.prog 89 #[.int .u8 f, .int .u8 m, RV neg s e mo, .int .i64 top] w fun e w' => e = .returned (.bool (decide (top < lo))) ∧ Below w.heap.size w w' := by
  have H := Own.start w
  have HT := Lib.hid hT
  clear hT
  have hne2 : (top != lo - 1) = true := by rw [bne, hne]; rfl
  go_enter Tryd.func89, Tryd.ntmps89
  exact walk89
set_option maxHeartbeats 1600000 in
set_option maxRecDepth 100000 in
theorem roundTiny_eq (f m s p k lk : Nat) (e top lo at_ : Int) (neg mo ex : Bool) (w : World) (hT : Tab w) (hp : p ≤ 113) (l1 : -20000 ≤ lo) (l2 : lo ≤ 20000) (t1 : -1100000 ≤ top) (t2 : top ≤ 1100000) (heq : (top == lo - 1) = true) (ha : top - (p : Int) + 1 = at_) (cE : ∀ w, Calls Tryd.prog 86 #[.int .u8 f] w fun e w' => e = .returned (.int .i64 lo) ∧ Below w.heap.size w w') (cP : ∀ w, Calls Tryd.prog 65 #[.int .u8 f] w fun e w' => e = .returned (.int .i64 (p : Nat)) ∧ Below w.heap.size w w') (cG : ∀ w, Tab w → Calls Tryd.prog 88 #[.int .u8 m, RV neg s e mo, .int .i64 at_] w fun e w' => e = .returned (.tuple #[W k, .bool ex]) ∧ Below w.heap.size w w') (cK : ∀ w, Calls Tryd.prog 78 #[W k] w fun e w' => e = .returned (.int .i64 (lk : Nat)) ∧ Below w.heap.size w w') :
    Calls Tryd.prog 89 #[.int .u8 f, .int .u8 m, RV neg s e mo, .int .i64 top] w fun e w' => e = .returned (.bool (decide (lk ≤ p))) ∧ Below w.heap.size w w' := by
  have H := Own.start w
  have HT := Lib.hid hT
  clear hT
  have hne2 : (top != lo - 1) = false := by rw [bne, heq]; rfl
  go_enter Tryd.func89, Tryd.ntmps89
  exact walk89
set_option maxRecDepth 100000 in
theorem walk32 {P : Prop} (h : P := by
  go_wp2_with (first
    | ((with_reducible show wpList _ _ _ (⟨_, .box _ _, _, _, _, _⟩ :: _) _ _); refine H.box rfl rfl (cells_agg _) ?_; (intro g w H; simp only [Act.put, List.setIfInBounds_toArray, List.set_cons_zero, List.set_cons_succ]))
    | ((with_reducible show wpList _ _ _ (⟨_, .alloc 27, _, _, _, _⟩ :: _) _ _); refine H.mk0 rfl rB rfl ?_; (intro g w H; simp only [Act.put, List.setIfInBounds_toArray, List.set_cons_zero, List.set_cons_succ]))
    | ((with_reducible show wpList _ _ _ (⟨_, .load 57 _, _, _, _, _⟩ :: _) _ _); refine H.ld rfl rR rfl rfl (by repeat (first | with_reducible exact List.mem_cons_self | apply List.mem_cons_of_mem)) (by first | with_reducible exact ext_rough _ _ _ _) (by rfl) ?_; simp only [Act.put, List.setIfInBounds_toArray, List.set_cons_zero, List.set_cons_succ])
    | ((with_reducible show wpList _ _ _ (⟨_, .load 3 _, _, _, _, _⟩ :: _) _ _); refine H.ld1 rfl oI rfl rfl (by repeat (first | with_reducible exact List.mem_cons_self | apply List.mem_cons_of_mem)) (by first | with_reducible exact get_rough7 _ _ _ _ | with_reducible exact get_parts7 _ _ _ _ | with_reducible exact get_10 _) ?_; simp only [Act.put, List.setIfInBounds_toArray, List.set_cons_zero, List.set_cons_succ])
    | ((with_reducible show wpList _ _ _ (⟨_, .load 4 _, _, _, _, _⟩ :: _) _ _); refine H.ld1 rfl oT rfl rfl (by repeat (first | with_reducible exact List.mem_cons_self | apply List.mem_cons_of_mem)) (by first | with_reducible exact get_rough0 _ _ _ _ | with_reducible exact get_rough8 _ _ _ _ | with_reducible exact get_10 _) ?_; simp only [Act.put, List.setIfInBounds_toArray, List.set_cons_zero, List.set_cons_succ])
    | ((with_reducible show wpList _ _ _ (⟨_, .store 27 _ _, _, _, _, _⟩ :: _) _ _); refine H.st rfl rB rfl rfl (cells_agg _) (by repeat (first | with_reducible exact Upd.head _ | apply Upd.tail)) (set_bits _ _ _ _) (by rfl) (by exact one_of rfl) (by first | exact ble_le rfl | (change _ + 1 ≤ 12; omega) | (change _ + 1 ≤ 6; omega)) ?_; (intro w H; simp only [Act.put]))
    | ((with_reducible show wpList _ _ _ (⟨_, .load 54 _, _, _, _, _⟩ :: _) _ _); refine H.ld rfl rW rfl rfl (by repeat (first | with_reducible exact List.mem_cons_self | apply List.mem_cons_of_mem)) (by first | with_reducible exact ext_limbs _ | with_reducible exact ext_parts_s _ _ _ _ | with_reducible exact ext_rough_s _ _ _ _ | with_reducible exact ext_parts_f _ _ _ _) (by rfl) ?_; simp only [Act.put, List.setIfInBounds_toArray, List.set_cons_zero, List.set_cons_succ])
    | ((with_reducible show Code.wp _ (.region 6 _ true) _ _ _); refine H.heldSub rfl (List.Sublist.refl _) ?_; intro H; refine H.takeRun (List.Sublist.refl _) 0 rfl (by kernel_rfl) (by kernel_rfl) (by kernel_rfl) (fun _ _ _ _ h => h) rfl (by intro w; go_simp; (try with_reducible rfl)) ?_; (try simp only [Act.put, List.setIfInBounds_toArray, List.set_cons_zero, List.set_cons_succ]); (try simp only [List.getElem_toArray, List.getElem_cons_zero, List.getElem_cons_succ]); (first | refine H.tk (List.Sublist.refl _) 1 rfl (by kernel_rfl) (by kernel_rfl) (by kernel_rfl) (fun _ _ _ _ h => h) rfl rW rfl rfl (by repeat (first | with_reducible exact List.mem_cons_self | apply List.mem_cons_of_mem)) (by first | with_reducible exact ext_limbs _ | with_reducible exact ext_parts_s _ _ _ _ | with_reducible exact ext_rough_s _ _ _ _ | with_reducible exact ext_parts_f _ _ _ _) (by rfl) ?_ | refine H.tk1 (List.Sublist.refl _) 1 rfl (by kernel_rfl) (by kernel_rfl) (by kernel_rfl) (fun _ _ _ _ h => h) rfl oI rfl rfl (by repeat (first | with_reducible exact List.mem_cons_self | apply List.mem_cons_of_mem)) (by first | with_reducible exact get_rough7 _ _ _ _ | with_reducible exact get_parts7 _ _ _ _ | with_reducible exact get_10 _) ?_); (try simp only [Act.put, List.setIfInBounds_toArray, List.set_cons_zero, List.set_cons_succ]); (try simp only [List.getElem_toArray, List.getElem_cons_zero, List.getElem_cons_succ]); refine H.takeRun (List.Sublist.refl _) 4 rfl (by kernel_rfl) (by kernel_rfl) (by kernel_rfl) (fun _ _ _ _ h => h) rfl (by intro w; go_simp; (try with_reducible rfl)) ?_; (try simp only [Act.put, List.setIfInBounds_toArray, List.set_cons_zero, List.set_cons_succ]); (try simp only [List.getElem_toArray, List.getElem_cons_zero, List.getElem_cons_succ]); (first | refine H.tk (List.Sublist.refl _) 5 rfl (by kernel_rfl) (by kernel_rfl) (by kernel_rfl) (fun _ _ _ _ h => h) rfl rW rfl rfl (by repeat (first | with_reducible exact List.mem_cons_self | apply List.mem_cons_of_mem)) (by first | with_reducible exact ext_limbs _ | with_reducible exact ext_parts_s _ _ _ _ | with_reducible exact ext_rough_s _ _ _ _ | with_reducible exact ext_parts_f _ _ _ _) (by rfl) ?_ | refine H.tk1 (List.Sublist.refl _) 5 rfl (by kernel_rfl) (by kernel_rfl) (by kernel_rfl) (fun _ _ _ _ h => h) rfl oI rfl rfl (by repeat (first | with_reducible exact List.mem_cons_self | apply List.mem_cons_of_mem)) (by first | with_reducible exact get_rough7 _ _ _ _ | with_reducible exact get_parts7 _ _ _ _ | with_reducible exact get_10 _) ?_); (try simp only [Act.put, List.setIfInBounds_toArray, List.set_cons_zero, List.set_cons_succ]); (try simp only [List.getElem_toArray, List.getElem_cons_zero, List.getElem_cons_succ]); refine held_one (i := 2) (by kernel_rfl) rfl rfl ?_; unfold Oper.wp; go_simp; (go_at_call 78; ((with_reducible refine (cL _).mono ?_); rintro e w ⟨rfl, hb⟩; replace H := H.call hb; clear hb)); refine H.next (List.Sublist.refl _) ?_; (try simp only [Act.put, List.setIfInBounds_toArray, List.set_cons_zero, List.set_cons_succ]); (try simp only [List.getElem_toArray, List.getElem_cons_zero, List.getElem_cons_succ]); refine H.takeRun (List.Sublist.refl _) 3 rfl (by kernel_rfl) (by kernel_rfl) (by kernel_rfl) (fun _ _ _ _ h => h) rfl (by intro w; go_simp; (try with_reducible rfl)) ?_; (try simp only [Act.put, List.setIfInBounds_toArray, List.set_cons_zero, List.set_cons_succ]); (try simp only [List.getElem_toArray, List.getElem_cons_zero, List.getElem_cons_succ]); refine H.takeRun (List.Sublist.refl _) 6 rfl (by kernel_rfl) (by kernel_rfl) (by kernel_rfl) (fun _ _ _ _ h => h) rfl (by intro w; go_simp; (try with_reducible rfl)) ?_; (try simp only [Act.put, List.setIfInBounds_toArray, List.set_cons_zero, List.set_cons_succ]); (try simp only [List.getElem_toArray, List.getElem_cons_zero, List.getElem_cons_succ]); refine H.takeRun (List.Sublist.refl _) 7 rfl (by kernel_rfl) (by kernel_rfl) (by kernel_rfl) (fun _ _ _ _ h => h) rfl (by intro w; go_simp; (try with_reducible rfl)) ?_; (try simp only [Act.put, List.setIfInBounds_toArray, List.set_cons_zero, List.set_cons_succ]); (try simp only [List.getElem_toArray, List.getElem_cons_zero, List.getElem_cons_succ]); refine wpAnyH_done (by kernel_rfl) ?_ _)
    | ((with_reducible show wpList _ _ _ (⟨_, .alloc 54, _, _, _, _⟩ :: _) _ _); refine H.mk0 rfl rW rfl ?_; (intro g w H; simp only [Act.put, List.setIfInBounds_toArray, List.set_cons_zero, List.set_cons_succ]))
    | ((with_reducible show wpList _ _ _ (⟨_, .load 25 _, _, _, _, _⟩ :: _) _ _); refine H.ld1 rfl oU rfl rfl (by repeat (first | with_reducible exact List.mem_cons_self | apply List.mem_cons_of_mem)) (by first | with_reducible exact get_20 _ _ | with_reducible exact get_21 _ _ | with_reducible exact limbs_o0 _ | with_reducible exact limbs_o1 _ | with_reducible exact limbs_o2 _ | with_reducible exact limbs_o3 _ | with_reducible exact limbs_o4 _ | with_reducible exact limbs_o5 _) ?_; simp only [Act.put, List.setIfInBounds_toArray, List.set_cons_zero, List.set_cons_succ])
    | ((with_reducible show wpList _ _ _ (⟨_, .store 54 _ _, _, _, _, _⟩ :: _) _ _); refine H.st rfl rW rfl rfl (cells_agg _) (by repeat (first | with_reducible exact Upd.head _ | apply Upd.tail)) (set_limbs _ _) (by rfl) (by exact one_of rfl) (by first | exact ble_le rfl | (change _ + 1 ≤ 12; omega) | (change _ + 1 ≤ 6; omega)) ?_; (intro w H; simp only [Act.put]))
    | (go_at_call 65; ((with_reducible refine (cP _).mono ?_); rintro e w ⟨rfl, hb⟩; replace H := H.call hb; clear hb))
    | (go_at_call 85; ((with_reducible refine (cR _).mono ?_); rintro e w' ⟨rfl, rfl⟩))
    | (go_at_call 78; ((with_reducible refine (cL _).mono ?_); rintro e w ⟨rfl, hb⟩; replace H := H.call hb; clear hb))
    | (go_at_call 19; ((with_reducible refine (cZ _).mono ?_); rintro e w ⟨rfl, hb⟩; replace H := H.call hb; clear hb))
    | (go_at_call 86; ((with_reducible refine (cE _).mono ?_); rintro e w ⟨rfl, hb⟩; replace H := H.call hb; clear hb))
    | (go_at_call 55; ((with_reducible refine (cX _).mono ?_); rintro e w ⟨rfl, hb⟩; replace H := H.call hb; clear hb))
    | (go_at_call 87; ((with_reducible refine (cO _).mono ?_); rintro e w ⟨rfl, hb⟩; replace H := H.call hb; clear hb))
    | (go_at_call 88; ((with_reducible refine (cG _ (HT.out.below H.below)).mono ?_); rintro e w ⟨rfl, hb⟩; replace H := H.call hb; clear hb))
    | (go_at_call 78; ((with_reducible refine (cK _).mono ?_); rintro e w ⟨rfl, hb⟩; replace H := H.call hb; clear hb))
    | (go_at_call 33; ((with_reducible refine (cOf _).mono ?_); rintro e w ⟨rfl, hb⟩; replace H := H.call hb; clear hb))
    | (go_at_call 48; ((with_reducible refine (cLf _).mono ?_); rintro e w ⟨rfl, hb⟩; replace H := H.call hb; clear hb))
    | (go_at_call 51; ((with_reducible refine (cAd _).mono ?_); rintro e w ⟨rfl, hb⟩; replace H := H.call hb; clear hb))
    | (go_at_call 90; ((with_reducible refine (cB _).mono ?_); rintro e w ⟨rfl, hb⟩; replace H := H.call hb; clear hb))
    | (go_at_call 89; ((with_reducible refine (cT _ (HT.out.below H.below)).mono ?_); rintro e w ⟨rfl, hb⟩; replace H := H.call hb; clear hb))
    )
  all_goals (refine bodyPost_ret (results_ctt rfl rfl (H.res rB (by repeat (first | with_reducible exact List.mem_cons_self | apply List.mem_cons_of_mem)) (by first | with_reducible exact ext_2 _ _) (by rfl))) rfl ⟨?_, H.below⟩; exact rfl)) : P := h
set_option maxHeartbeats 1600000 in
set_option maxRecDepth 100000 in
theorem roundPack_right (f m s p : Nat) (e : Int) (neg mo : Bool) (w : World) (hp : p ≤ 113) (cP : ∀ w, Calls Tryd.prog 65 #[.int .u8 f] w fun e w' => e = .returned (.int .i64 (p : Nat)) ∧ Below w.heap.size w w') (cR : ∀ w, Calls Tryd.prog 85 #[.int .u8 f, .int .u8 m] w fun e w' => e = .returned (.bool false) ∧ w = w') :
    Calls Tryd.prog 32 #[.int .u8 f, .int .u8 m, RV neg s e mo] w fun e w' => e = .returned (.tuple #[BV 0, .int .u8 0, .int .i64 2]) ∧ Below w.heap.size w w' := by
  have H := Own.start w
  go_enter Tryd.func32, Tryd.ntmps32
  exact walk32
set_option maxHeartbeats 1600000 in
set_option maxRecDepth 100000 in
theorem roundPack_low (f m s p : Nat) (e : Int) (neg mo : Bool) (w : World) (hp : p ≤ 113) (he : e < -1048576) (cP : ∀ w, Calls Tryd.prog 65 #[.int .u8 f] w fun e w' => e = .returned (.int .i64 (p : Nat)) ∧ Below w.heap.size w w') (cR : ∀ w, Calls Tryd.prog 85 #[.int .u8 f, .int .u8 m] w fun e w' => e = .returned (.bool true) ∧ w = w') :
    Calls Tryd.prog 32 #[.int .u8 f, .int .u8 m, RV neg s e mo] w fun e w' => e = .returned (.tuple #[BV 0, .int .u8 0, .int .i64 2]) ∧ Below w.heap.size w w' := by
  have H := Own.start w
  have he2 : decide (e < -1048576) = true := by simpa using he
  go_enter Tryd.func32, Tryd.ntmps32
  exact walk32
set_option maxHeartbeats 1600000 in
set_option maxRecDepth 100000 in
theorem roundPack_high (f m s p : Nat) (e : Int) (neg mo : Bool) (w : World) (hp : p ≤ 113) (he : 1048576 < e) (cP : ∀ w, Calls Tryd.prog 65 #[.int .u8 f] w fun e w' => e = .returned (.int .i64 (p : Nat)) ∧ Below w.heap.size w w') (cR : ∀ w, Calls Tryd.prog 85 #[.int .u8 f, .int .u8 m] w fun e w' => e = .returned (.bool true) ∧ w = w') :
    Calls Tryd.prog 32 #[.int .u8 f, .int .u8 m, RV neg s e mo] w fun e w' => e = .returned (.tuple #[BV 0, .int .u8 0, .int .i64 2]) ∧ Below w.heap.size w w' := by
  have H := Own.start w
  have he2 : decide (e < -1048576) = false := by simp; omega
  have he3 : decide (1048576 < e) = true := by simpa using he
  go_enter Tryd.func32, Tryd.ntmps32
  exact walk32
set_option maxHeartbeats 1600000 in
set_option maxRecDepth 100000 in
theorem roundPack_more (f m s p l : Nat) (e : Int) (neg : Bool) (w : World) (hp : p ≤ 113) (h1 : -1048576 ≤ e) (h2 : e ≤ 1048576) (hl : l < p + 2) (hl4 : l ≤ 384) (cP : ∀ w, Calls Tryd.prog 65 #[.int .u8 f] w fun e w' => e = .returned (.int .i64 (p : Nat)) ∧ Below w.heap.size w w') (cR : ∀ w, Calls Tryd.prog 85 #[.int .u8 f, .int .u8 m] w fun e w' => e = .returned (.bool true) ∧ w = w') (cL : ∀ w, Calls Tryd.prog 78 #[W s] w fun e w' => e = .returned (.int .i64 (l : Nat)) ∧ Below w.heap.size w w') :
    Calls Tryd.prog 32 #[.int .u8 f, .int .u8 m, RV neg s e true] w fun e w' => e = .returned (.tuple #[BV 0, .int .u8 0, .int .i64 2]) ∧ Below w.heap.size w w' := by
  have H := Own.start w
  have he2 : decide (e < -1048576) = false := by simp; omega
  have he3 : decide (1048576 < e) = false := by simp; omega
  have hl2 : decide ((l : Int) < (p : Int) + 2) = true := by simp; omega
  go_enter Tryd.func32, Tryd.ntmps32
  exact walk32
set_option maxHeartbeats 1600000 in
set_option maxRecDepth 100000 in
theorem roundPack_zero_f (f m s p l z : Nat) (e : Int) (neg : Bool) (w : World) (hT : Tab w) (hp : p ≤ 113) (h1 : -1048576 ≤ e) (h2 : e ≤ 1048576) (hl4 : l ≤ 384) (cP : ∀ w, Calls Tryd.prog 65 #[.int .u8 f] w fun e w' => e = .returned (.int .i64 (p : Nat)) ∧ Below w.heap.size w w') (cR : ∀ w, Calls Tryd.prog 85 #[.int .u8 f, .int .u8 m] w fun e w' => e = .returned (.bool true) ∧ w = w') (cL : ∀ w, Calls Tryd.prog 78 #[W s] w fun e w' => e = .returned (.int .i64 (l : Nat)) ∧ Below w.heap.size w w') (hs : s < top6) (hs0 : decide (s = 0) = true) (cZ : ∀ w, Calls Tryd.prog 19 #[.int .u8 f, .bool neg] w fun e w' => e = .returned (BV z) ∧ Below w.heap.size w w') :
    Calls Tryd.prog 32 #[.int .u8 f, .int .u8 m, RV neg s e false] w fun e w' => e = .returned (.tuple #[BV z, .int .u8 0, .int .i64 0]) ∧ Below w.heap.size w w' := by
  have H := Own.start w
  have HT := Lib.hid hT
  clear hT
  have he2 : decide (e < -1048576) = false := by simp; omega
  have he3 : decide (1048576 < e) = false := by simp; omega
  have eq1 : ∀ w, (Op.equalIn 10000 54 (.agg (limbs s)) (.agg #[.int .u64 0, .int .u64 0, .int .u64 0, .int .u64 0, .int .u64 0, .int .u64 0])).run Tryd.prog w = .ok true w := fun w => (run_equal_zero w s hs).trans (by rw [hs0])
  clear hs hs0
  go_enter Tryd.func32, Tryd.ntmps32
  exact walk32
set_option maxHeartbeats 1600000 in
set_option maxRecDepth 100000 in
theorem roundPack_over_f (f m s p l E o : Nat) (e top lo : Int) (neg : Bool) (w : World) (hT : Tab w) (hp : p ≤ 113) (h1 : -1048576 ≤ e) (h2 : e ≤ 1048576) (hl4 : l ≤ 384) (cP : ∀ w, Calls Tryd.prog 65 #[.int .u8 f] w fun e w' => e = .returned (.int .i64 (p : Nat)) ∧ Below w.heap.size w w') (cR : ∀ w, Calls Tryd.prog 85 #[.int .u8 f, .int .u8 m] w fun e w' => e = .returned (.bool true) ∧ w = w') (cL : ∀ w, Calls Tryd.prog 78 #[W s] w fun e w' => e = .returned (.int .i64 (l : Nat)) ∧ Below w.heap.size w w') (hs : s < top6) (hs0 : decide (s = 0) = false) (htop : (l : Int) - 1 + e = top) (l1 : -20000 ≤ lo) (l2 : lo ≤ 20000) (t1 : -1100000 ≤ top) (t2 : top ≤ 1100000) (hE : E ≤ 16383) (cE : ∀ w, Calls Tryd.prog 86 #[.int .u8 f] w fun e w' => e = .returned (.int .i64 lo) ∧ Below w.heap.size w w') (cX : ∀ w, Calls Tryd.prog 55 #[.int .u8 f] w fun e w' => e = .returned (.int .i64 (E : Nat)) ∧ Below w.heap.size w w') (hov : (E : Int) < top) (cO : ∀ w, Calls Tryd.prog 87 #[.int .u8 f, .int .u8 m, .bool neg] w fun e w' => e = .returned (.tuple #[BV o, .int .u8 5, .int .i64 0]) ∧ Below w.heap.size w w') :
    Calls Tryd.prog 32 #[.int .u8 f, .int .u8 m, RV neg s e false] w fun e w' => e = .returned (.tuple #[BV o, .int .u8 5, .int .i64 0]) ∧ Below w.heap.size w w' := by
  have H := Own.start w
  have HT := Lib.hid hT
  clear hT
  have he2 : decide (e < -1048576) = false := by simp; omega
  have he3 : decide (1048576 < e) = false := by simp; omega
  have eq1 : ∀ w, (Op.equalIn 10000 54 (.agg (limbs s)) (.agg #[.int .u64 0, .int .u64 0, .int .u64 0, .int .u64 0, .int .u64 0, .int .u64 0])).run Tryd.prog w = .ok false w := fun w => (run_equal_zero w s hs).trans (by rw [hs0])
  have v1 : IntKind.i64.wrap ((l : Int) - 1) = (l : Int) - 1 := IntWalk.i64_in _ (by omega)
  have v2 : IntKind.i64.wrap ((l : Int) - 1 + e) = top := by rw [htop]; exact IntWalk.i64_in _ (by omega)
  clear hs hs0 htop
  go_enter Tryd.func32, Tryd.ntmps32
  exact walk32
set_option maxHeartbeats 1600000 in
set_option maxRecDepth 100000 in
theorem roundPack_zero_t (f m s p l z : Nat) (e : Int) (neg : Bool) (w : World) (hT : Tab w) (hp : p ≤ 113) (h1 : -1048576 ≤ e) (h2 : e ≤ 1048576) (hl4 : l ≤ 384) (hl : ¬ l < p + 2) (cP : ∀ w, Calls Tryd.prog 65 #[.int .u8 f] w fun e w' => e = .returned (.int .i64 (p : Nat)) ∧ Below w.heap.size w w') (cR : ∀ w, Calls Tryd.prog 85 #[.int .u8 f, .int .u8 m] w fun e w' => e = .returned (.bool true) ∧ w = w') (cL : ∀ w, Calls Tryd.prog 78 #[W s] w fun e w' => e = .returned (.int .i64 (l : Nat)) ∧ Below w.heap.size w w') (hs : s < top6) (hs0 : decide (s = 0) = true) (cZ : ∀ w, Calls Tryd.prog 19 #[.int .u8 f, .bool neg] w fun e w' => e = .returned (BV z) ∧ Below w.heap.size w w') :
    Calls Tryd.prog 32 #[.int .u8 f, .int .u8 m, RV neg s e true] w fun e w' => e = .returned (.tuple #[BV z, .int .u8 0, .int .i64 0]) ∧ Below w.heap.size w w' := by
  have H := Own.start w
  have HT := Lib.hid hT
  clear hT
  have he2 : decide (e < -1048576) = false := by simp; omega
  have he3 : decide (1048576 < e) = false := by simp; omega
  have hl2 : decide ((l : Int) < (p : Int) + 2) = false := by simp; omega
  have eq1 : ∀ w, (Op.equalIn 10000 54 (.agg (limbs s)) (.agg #[.int .u64 0, .int .u64 0, .int .u64 0, .int .u64 0, .int .u64 0, .int .u64 0])).run Tryd.prog w = .ok true w := fun w => (run_equal_zero w s hs).trans (by rw [hs0])
  clear hs hs0
  go_enter Tryd.func32, Tryd.ntmps32
  exact walk32
set_option maxHeartbeats 1600000 in
set_option maxRecDepth 100000 in
theorem roundPack_over_t (f m s p l E o : Nat) (e top lo : Int) (neg : Bool) (w : World) (hT : Tab w) (hp : p ≤ 113) (h1 : -1048576 ≤ e) (h2 : e ≤ 1048576) (hl4 : l ≤ 384) (hl : ¬ l < p + 2) (cP : ∀ w, Calls Tryd.prog 65 #[.int .u8 f] w fun e w' => e = .returned (.int .i64 (p : Nat)) ∧ Below w.heap.size w w') (cR : ∀ w, Calls Tryd.prog 85 #[.int .u8 f, .int .u8 m] w fun e w' => e = .returned (.bool true) ∧ w = w') (cL : ∀ w, Calls Tryd.prog 78 #[W s] w fun e w' => e = .returned (.int .i64 (l : Nat)) ∧ Below w.heap.size w w') (hs : s < top6) (hs0 : decide (s = 0) = false) (htop : (l : Int) - 1 + e = top) (l1 : -20000 ≤ lo) (l2 : lo ≤ 20000) (t1 : -1100000 ≤ top) (t2 : top ≤ 1100000) (hE : E ≤ 16383) (cE : ∀ w, Calls Tryd.prog 86 #[.int .u8 f] w fun e w' => e = .returned (.int .i64 lo) ∧ Below w.heap.size w w') (cX : ∀ w, Calls Tryd.prog 55 #[.int .u8 f] w fun e w' => e = .returned (.int .i64 (E : Nat)) ∧ Below w.heap.size w w') (hov : (E : Int) < top) (cO : ∀ w, Calls Tryd.prog 87 #[.int .u8 f, .int .u8 m, .bool neg] w fun e w' => e = .returned (.tuple #[BV o, .int .u8 5, .int .i64 0]) ∧ Below w.heap.size w w') :
    Calls Tryd.prog 32 #[.int .u8 f, .int .u8 m, RV neg s e true] w fun e w' => e = .returned (.tuple #[BV o, .int .u8 5, .int .i64 0]) ∧ Below w.heap.size w w' := by
  have H := Own.start w
  have HT := Lib.hid hT
  clear hT
  have he2 : decide (e < -1048576) = false := by simp; omega
  have he3 : decide (1048576 < e) = false := by simp; omega
  have hl2 : decide ((l : Int) < (p : Int) + 2) = false := by simp; omega
  have eq1 : ∀ w, (Op.equalIn 10000 54 (.agg (limbs s)) (.agg #[.int .u64 0, .int .u64 0, .int .u64 0, .int .u64 0, .int .u64 0, .int .u64 0])).run Tryd.prog w = .ok false w := fun w => (run_equal_zero w s hs).trans (by rw [hs0])
  have v1 : IntKind.i64.wrap ((l : Int) - 1) = (l : Int) - 1 := IntWalk.i64_in _ (by omega)
  have v2 : IntKind.i64.wrap ((l : Int) - 1 + e) = top := by rw [htop]; exact IntWalk.i64_in _ (by omega)
  clear hs hs0 htop
  go_enter Tryd.func32, Tryd.ntmps32
  exact walk32
end Go.Proofs.YtdcgcjmajacgiaaDoor

namespace Go.Proofs.YtdcgcjmajacgiaaDoor
open Go.RowKit
set_option maxHeartbeats 3200000 in
set_option maxRecDepth 100000 in
theorem kindUnpack_0 (f b e t p : Nat) (neg : Bool) (w : World) (hT : Tab w)
    (cT : ∀ w, Calls Tryd.prog 22 #[.int .u8 f, BV b] w fun e' w' => e' = .returned (.bool true) ∧ Below w.heap.size w w')
    (cP : ∀ w, Calls Tryd.prog 65 #[.int .u8 f] w fun e' w' => e' = .returned (.int .i64 (p : Nat)) ∧ Below w.heap.size w w')
    (cF : ∀ w, Tab w → Calls Tryd.prog 108 #[.int .u8 f, BV b] w fun e' w' => e' = .returned (.tuple #[.bool neg, .int .i64 (e : Nat), W t]) ∧ Below w.heap.size w w')
    (cC : ∀ w, Tab w → Calls Tryd.prog 94 #[.int .u8 f, BV b] w fun e' w' => e' = .returned (.int .u8 0) ∧ Below w.heap.size w w') :
    Calls Tryd.prog 91 #[.int .u8 f, BV b] w fun e' w' => e' = .returned (.tuple #[PV 0 0 0 0, .int .i64 0]) ∧ Below w.heap.size w w' := by
  have HT := Lib.hid hT
  clear hT
  go_enter Tryd.func91, Tryd.ntmps91
  go_wp2_with fail
  refine (cT _).mono ?_
  rintro e' w1 ⟨rfl, hb1⟩
  go_wp2_with fail
  refine (cP _).mono ?_
  rintro e' w2 ⟨rfl, hb2⟩
  have b4 : Blk 72 w2 (w.heap.size + 1) (parts 0 0 0 0) := by
    rw [parts_zero]
    have := (Blk.new (T := 72) (w.alloc (.cells #[.int .u64 (limb b 1), .int .u64 (limb b 0)] 27 (0, 0))) #[.int .u8 0, .int .u64 0, .int .u64 0, .int .u64 0, .int .u64 0, .int .u64 0, .int .u64 0, .int .i64 0, .int .u64 0, .int .u64 0, .int .u64 0, .int .u64 0, .int .u64 0, .int .u64 0]).below hb1 (by simp)
    have := this.below hb2 this.lt
    simpa using this
  have b3 : Blk 27 w2 w.heap.size #[.int .u64 (limb b 1), .int .u64 (limb b 0)] := by
    have h1 := ((Blk.new (T := 27) w #[.int .u64 (limb b 1), .int .u64 (limb b 0)]).alloc (.cells #[.int .u8 0, .int .u64 0, .int .u64 0, .int .u64 0, .int .u64 0, .int .u64 0, .int .u64 0, .int .i64 0, .int .u64 0, .int .u64 0, .int .u64 0, .int .u64 0, .int .u64 0, .int .u64 0] 72 (0, 0))).below hb1 (by simp <;> omega)
    exact h1.below hb2 h1.lt
  have hw2 := ((((Below.refl w.heap.size w).alloc (Nat.le_refl _) (.cells #[.int .u64 (limb b 1), .int .u64 (limb b 0)] 27 (0, 0))).alloc (by simp) (.cells #[.int .u8 0, .int .u64 0, .int .u64 0, .int .u64 0, .int .u64 0, .int .u64 0, .int .u64 0, .int .i64 0, .int .u64 0, .int .u64 0, .int .u64 0, .int .u64 0, .int .u64 0, .int .u64 0] 72 (0, 0))).trans (hb1.mono (by simp <;> omega))).trans (hb2.mono (by have := hb1.size; simp at this; omega))
  clear hb1 hb2
  have g0 := b3.cell 0 rfl
  have g1 := b3.cell 1 rfl
  go_wp2_with fail
  refine (cF _ (HT.out.below hw2)).mono ?_
  rintro e' w3 ⟨rfl, hb3⟩
  replace hw2 := (hw2.trans (hb3.mono (Nat.le_of_lt b3.lt))).alloc (by have := b3.lt; have := hb3.size; omega) (.cells (limbs t) 54 (0, 0))
  replace b4 := (b4.below hb3 b4.lt).alloc (.cells (limbs t) 54 (0, 0))
  replace b3 := (b3.below hb3 b3.lt).alloc (.cells (limbs t) 54 (0, 0))
  have b9 := Blk.new (T := 54) w3 (limbs t)
  clear g0 g1 hb3
  go_upto_region 5 with (fail)
  change Code.wp _ _ _ _ (w3.alloc (.cells (limbs t) 54 (0, 0)))
  generalize w3.alloc (.cells (limbs t) 54 (0, 0)) = v at *
  have g0 := b3.cell 0 rfl
  have g1 := b3.cell 1 rfl
  go_wp2_with fail
  refine (cC _ (HT.out.below hw2)).mono ?_
  rintro e' w4 ⟨rfl, hb4⟩
  replace hw2 := (hw2.trans (hb4.mono (Nat.le_of_lt b3.lt))).alloc (by have := b3.lt; have := hb4.size; omega) (.cells (parts 0 0 0 0) 72 (0, 0))
  replace b4 := (b4.below hb4 b4.lt).alloc (.cells (parts 0 0 0 0) 72 (0, 0))
  replace b9 := (b9.below hb4 b9.lt).alloc (.cells (parts 0 0 0 0) 72 (0, 0))
  have b10 := Blk.new (T := 72) w4 (parts 0 0 0 0)
  clear g0 g1 hb4 b3
  go_upto_region 6 with (fail)
  rw [← show parts 0 0 0 0 = #[.int .u8 0, .int .u64 0, .int .u64 0, .int .u64 0, .int .u64 0, .int .u64 0, .int .u64 0, .int .i64 0, .int .u64 0, .int .u64 0, .int .u64 0, .int .u64 0, .int .u64 0, .int .u64 0] from parts_zero 0]
  generalize w4.alloc (.cells (parts 0 0 0 0) 72 (0, 0)) = v at *
  obtain ⟨d0, d1, d2, d3, d4, d5, d6, d7, d8, d9, d10, d11, d12, d13⟩ := b10.p14
  obtain ⟨c0, c1, c2, c3, c4, c5, c6, c7, c8, c9, c10, c11, c12, c13⟩ := b4.p14
  obtain ⟨n0, n1, n2, n3, n4, n5, n6, n7, n8, n9, n10, n11, n12, n13⟩ := b4.free14
  simp only [limb_zero] at d0 d1 d2 d3 d4 d5 d6 d7 d8 d9 d10 d11 d12 d13 c0 c1 c2 c3 c4 c5 c6 c7 c8 c9 c10 c11 c12 c13
  replace d0 : v.cell? ⟨w4.heap.size, 0, none⟩ = some (.int .u8 0) := d0
  replace c0 : v.cell? ⟨w.heap.size + 1, 0, none⟩ = some (.int .u8 0) := c0
  clear b10 b9 cT cP cF cC
  have HW := Lib.hid hw2
  clear hw2
  go_wp2_with fail
  have hb := below_put14 HW.out (by omega : w.heap.size ≤ w.heap.size + 1) 0 0 0 0
  unfold put14 at hb
  simp only [limb_zero] at hb
  replace hb := hb
  exact bodyPost_ret (v := .tuple #[PV 0 0 0 0, .int .i64 0]) (by simp [results, Tryd.results91, go_sem, parts, limb_zero, c0, c1, c2, c3, c4, c5, c6, c7, c8, c9, c10, c11, c12, c13]) rfl ⟨rfl, hb⟩
set_option maxHeartbeats 3200000 in
set_option maxRecDepth 100000 in
theorem kindUnpack_3 (f b e t p : Nat) (neg : Bool) (w : World) (hT : Tab w)
    (cT : ∀ w, Calls Tryd.prog 22 #[.int .u8 f, BV b] w fun e' w' => e' = .returned (.bool true) ∧ Below w.heap.size w w')
    (cP : ∀ w, Calls Tryd.prog 65 #[.int .u8 f] w fun e' w' => e' = .returned (.int .i64 (p : Nat)) ∧ Below w.heap.size w w')
    (cF : ∀ w, Tab w → Calls Tryd.prog 108 #[.int .u8 f, BV b] w fun e' w' => e' = .returned (.tuple #[.bool neg, .int .i64 (e : Nat), W t]) ∧ Below w.heap.size w w')
    (cC : ∀ w, Tab w → Calls Tryd.prog 94 #[.int .u8 f, BV b] w fun e' w' => e' = .returned (.int .u8 3) ∧ Below w.heap.size w w') :
    Calls Tryd.prog 91 #[.int .u8 f, BV b] w fun e' w' => e' = .returned (.tuple #[PV 3 0 0 0, .int .i64 0]) ∧ Below w.heap.size w w' := by
  have HT := Lib.hid hT
  clear hT
  go_enter Tryd.func91, Tryd.ntmps91
  go_wp2_with fail
  refine (cT _).mono ?_
  rintro e' w1 ⟨rfl, hb1⟩
  go_wp2_with fail
  refine (cP _).mono ?_
  rintro e' w2 ⟨rfl, hb2⟩
  have b4 : Blk 72 w2 (w.heap.size + 1) (parts 0 0 0 0) := by
    rw [parts_zero]
    have := (Blk.new (T := 72) (w.alloc (.cells #[.int .u64 (limb b 1), .int .u64 (limb b 0)] 27 (0, 0))) #[.int .u8 0, .int .u64 0, .int .u64 0, .int .u64 0, .int .u64 0, .int .u64 0, .int .u64 0, .int .i64 0, .int .u64 0, .int .u64 0, .int .u64 0, .int .u64 0, .int .u64 0, .int .u64 0]).below hb1 (by simp)
    have := this.below hb2 this.lt
    simpa using this
  have b3 : Blk 27 w2 w.heap.size #[.int .u64 (limb b 1), .int .u64 (limb b 0)] := by
    have h1 := ((Blk.new (T := 27) w #[.int .u64 (limb b 1), .int .u64 (limb b 0)]).alloc (.cells #[.int .u8 0, .int .u64 0, .int .u64 0, .int .u64 0, .int .u64 0, .int .u64 0, .int .u64 0, .int .i64 0, .int .u64 0, .int .u64 0, .int .u64 0, .int .u64 0, .int .u64 0, .int .u64 0] 72 (0, 0))).below hb1 (by simp <;> omega)
    exact h1.below hb2 h1.lt
  have hw2 := ((((Below.refl w.heap.size w).alloc (Nat.le_refl _) (.cells #[.int .u64 (limb b 1), .int .u64 (limb b 0)] 27 (0, 0))).alloc (by simp) (.cells #[.int .u8 0, .int .u64 0, .int .u64 0, .int .u64 0, .int .u64 0, .int .u64 0, .int .u64 0, .int .i64 0, .int .u64 0, .int .u64 0, .int .u64 0, .int .u64 0, .int .u64 0, .int .u64 0] 72 (0, 0))).trans (hb1.mono (by simp <;> omega))).trans (hb2.mono (by have := hb1.size; simp at this; omega))
  clear hb1 hb2
  have g0 := b3.cell 0 rfl
  have g1 := b3.cell 1 rfl
  go_wp2_with fail
  refine (cF _ (HT.out.below hw2)).mono ?_
  rintro e' w3 ⟨rfl, hb3⟩
  replace hw2 := (hw2.trans (hb3.mono (Nat.le_of_lt b3.lt))).alloc (by have := b3.lt; have := hb3.size; omega) (.cells (limbs t) 54 (0, 0))
  replace b4 := (b4.below hb3 b4.lt).alloc (.cells (limbs t) 54 (0, 0))
  replace b3 := (b3.below hb3 b3.lt).alloc (.cells (limbs t) 54 (0, 0))
  have b9 := Blk.new (T := 54) w3 (limbs t)
  clear g0 g1 hb3
  go_upto_region 5 with (fail)
  change Code.wp _ _ _ _ (w3.alloc (.cells (limbs t) 54 (0, 0)))
  generalize w3.alloc (.cells (limbs t) 54 (0, 0)) = v at *
  have g0 := b3.cell 0 rfl
  have g1 := b3.cell 1 rfl
  go_wp2_with fail
  refine (cC _ (HT.out.below hw2)).mono ?_
  rintro e' w4 ⟨rfl, hb4⟩
  replace hw2 := (hw2.trans (hb4.mono (Nat.le_of_lt b3.lt))).alloc (by have := b3.lt; have := hb4.size; omega) (.cells (parts 3 0 0 0) 72 (0, 0))
  replace b4 := (b4.below hb4 b4.lt).alloc (.cells (parts 3 0 0 0) 72 (0, 0))
  replace b9 := (b9.below hb4 b9.lt).alloc (.cells (parts 3 0 0 0) 72 (0, 0))
  have b10 := Blk.new (T := 72) w4 (parts 3 0 0 0)
  clear g0 g1 hb4 b3
  go_upto_region 6 with (fail)
  rw [← show parts 3 0 0 0 = #[.int .u8 3, .int .u64 0, .int .u64 0, .int .u64 0, .int .u64 0, .int .u64 0, .int .u64 0, .int .i64 0, .int .u64 0, .int .u64 0, .int .u64 0, .int .u64 0, .int .u64 0, .int .u64 0] from parts_zero 3]
  generalize w4.alloc (.cells (parts 3 0 0 0) 72 (0, 0)) = v at *
  obtain ⟨d0, d1, d2, d3, d4, d5, d6, d7, d8, d9, d10, d11, d12, d13⟩ := b10.p14
  obtain ⟨c0, c1, c2, c3, c4, c5, c6, c7, c8, c9, c10, c11, c12, c13⟩ := b4.p14
  obtain ⟨n0, n1, n2, n3, n4, n5, n6, n7, n8, n9, n10, n11, n12, n13⟩ := b4.free14
  simp only [limb_zero] at d0 d1 d2 d3 d4 d5 d6 d7 d8 d9 d10 d11 d12 d13 c0 c1 c2 c3 c4 c5 c6 c7 c8 c9 c10 c11 c12 c13
  replace d0 : v.cell? ⟨w4.heap.size, 0, none⟩ = some (.int .u8 3) := d0
  replace c0 : v.cell? ⟨w.heap.size + 1, 0, none⟩ = some (.int .u8 0) := c0
  clear b10 b9 cT cP cF cC
  have HW := Lib.hid hw2
  clear hw2
  go_wp2_with fail
  have hb := below_put14 HW.out (by omega : w.heap.size ≤ w.heap.size + 1) 3 0 0 0
  unfold put14 at hb
  simp only [limb_zero] at hb
  replace hb := hb
  exact bodyPost_ret (v := .tuple #[PV 3 0 0 0, .int .i64 0]) (by simp [results, Tryd.results91, go_sem, parts, limb_zero, c0, c1, c2, c3, c4, c5, c6, c7, c8, c9, c10, c11, c12, c13]) rfl ⟨rfl, hb⟩
set_option maxHeartbeats 3200000 in
set_option maxRecDepth 100000 in
theorem kindUnpack_4 (f b e t p : Nat) (neg : Bool) (w : World) (hT : Tab w)
    (cT : ∀ w, Calls Tryd.prog 22 #[.int .u8 f, BV b] w fun e' w' => e' = .returned (.bool true) ∧ Below w.heap.size w w')
    (cP : ∀ w, Calls Tryd.prog 65 #[.int .u8 f] w fun e' w' => e' = .returned (.int .i64 (p : Nat)) ∧ Below w.heap.size w w')
    (cF : ∀ w, Tab w → Calls Tryd.prog 108 #[.int .u8 f, BV b] w fun e' w' => e' = .returned (.tuple #[.bool neg, .int .i64 (e : Nat), W t]) ∧ Below w.heap.size w w')
    (cC : ∀ w, Tab w → Calls Tryd.prog 94 #[.int .u8 f, BV b] w fun e' w' => e' = .returned (.int .u8 4) ∧ Below w.heap.size w w') :
    Calls Tryd.prog 91 #[.int .u8 f, BV b] w fun e' w' => e' = .returned (.tuple #[PV 4 0 0 0, .int .i64 0]) ∧ Below w.heap.size w w' := by
  have HT := Lib.hid hT
  clear hT
  go_enter Tryd.func91, Tryd.ntmps91
  go_wp2_with fail
  refine (cT _).mono ?_
  rintro e' w1 ⟨rfl, hb1⟩
  go_wp2_with fail
  refine (cP _).mono ?_
  rintro e' w2 ⟨rfl, hb2⟩
  have b4 : Blk 72 w2 (w.heap.size + 1) (parts 0 0 0 0) := by
    rw [parts_zero]
    have := (Blk.new (T := 72) (w.alloc (.cells #[.int .u64 (limb b 1), .int .u64 (limb b 0)] 27 (0, 0))) #[.int .u8 0, .int .u64 0, .int .u64 0, .int .u64 0, .int .u64 0, .int .u64 0, .int .u64 0, .int .i64 0, .int .u64 0, .int .u64 0, .int .u64 0, .int .u64 0, .int .u64 0, .int .u64 0]).below hb1 (by simp)
    have := this.below hb2 this.lt
    simpa using this
  have b3 : Blk 27 w2 w.heap.size #[.int .u64 (limb b 1), .int .u64 (limb b 0)] := by
    have h1 := ((Blk.new (T := 27) w #[.int .u64 (limb b 1), .int .u64 (limb b 0)]).alloc (.cells #[.int .u8 0, .int .u64 0, .int .u64 0, .int .u64 0, .int .u64 0, .int .u64 0, .int .u64 0, .int .i64 0, .int .u64 0, .int .u64 0, .int .u64 0, .int .u64 0, .int .u64 0, .int .u64 0] 72 (0, 0))).below hb1 (by simp <;> omega)
    exact h1.below hb2 h1.lt
  have hw2 := ((((Below.refl w.heap.size w).alloc (Nat.le_refl _) (.cells #[.int .u64 (limb b 1), .int .u64 (limb b 0)] 27 (0, 0))).alloc (by simp) (.cells #[.int .u8 0, .int .u64 0, .int .u64 0, .int .u64 0, .int .u64 0, .int .u64 0, .int .u64 0, .int .i64 0, .int .u64 0, .int .u64 0, .int .u64 0, .int .u64 0, .int .u64 0, .int .u64 0] 72 (0, 0))).trans (hb1.mono (by simp <;> omega))).trans (hb2.mono (by have := hb1.size; simp at this; omega))
  clear hb1 hb2
  have g0 := b3.cell 0 rfl
  have g1 := b3.cell 1 rfl
  go_wp2_with fail
  refine (cF _ (HT.out.below hw2)).mono ?_
  rintro e' w3 ⟨rfl, hb3⟩
  replace hw2 := (hw2.trans (hb3.mono (Nat.le_of_lt b3.lt))).alloc (by have := b3.lt; have := hb3.size; omega) (.cells (limbs t) 54 (0, 0))
  replace b4 := (b4.below hb3 b4.lt).alloc (.cells (limbs t) 54 (0, 0))
  replace b3 := (b3.below hb3 b3.lt).alloc (.cells (limbs t) 54 (0, 0))
  have b9 := Blk.new (T := 54) w3 (limbs t)
  clear g0 g1 hb3
  go_upto_region 5 with (fail)
  change Code.wp _ _ _ _ (w3.alloc (.cells (limbs t) 54 (0, 0)))
  generalize w3.alloc (.cells (limbs t) 54 (0, 0)) = v at *
  have g0 := b3.cell 0 rfl
  have g1 := b3.cell 1 rfl
  go_wp2_with fail
  refine (cC _ (HT.out.below hw2)).mono ?_
  rintro e' w4 ⟨rfl, hb4⟩
  replace hw2 := (hw2.trans (hb4.mono (Nat.le_of_lt b3.lt))).alloc (by have := b3.lt; have := hb4.size; omega) (.cells (parts 4 0 0 0) 72 (0, 0))
  replace b4 := (b4.below hb4 b4.lt).alloc (.cells (parts 4 0 0 0) 72 (0, 0))
  replace b9 := (b9.below hb4 b9.lt).alloc (.cells (parts 4 0 0 0) 72 (0, 0))
  have b10 := Blk.new (T := 72) w4 (parts 4 0 0 0)
  clear g0 g1 hb4 b3
  go_upto_region 6 with (fail)
  rw [← show parts 4 0 0 0 = #[.int .u8 4, .int .u64 0, .int .u64 0, .int .u64 0, .int .u64 0, .int .u64 0, .int .u64 0, .int .i64 0, .int .u64 0, .int .u64 0, .int .u64 0, .int .u64 0, .int .u64 0, .int .u64 0] from parts_zero 4]
  generalize w4.alloc (.cells (parts 4 0 0 0) 72 (0, 0)) = v at *
  obtain ⟨d0, d1, d2, d3, d4, d5, d6, d7, d8, d9, d10, d11, d12, d13⟩ := b10.p14
  obtain ⟨c0, c1, c2, c3, c4, c5, c6, c7, c8, c9, c10, c11, c12, c13⟩ := b4.p14
  obtain ⟨n0, n1, n2, n3, n4, n5, n6, n7, n8, n9, n10, n11, n12, n13⟩ := b4.free14
  simp only [limb_zero] at d0 d1 d2 d3 d4 d5 d6 d7 d8 d9 d10 d11 d12 d13 c0 c1 c2 c3 c4 c5 c6 c7 c8 c9 c10 c11 c12 c13
  replace d0 : v.cell? ⟨w4.heap.size, 0, none⟩ = some (.int .u8 4) := d0
  replace c0 : v.cell? ⟨w.heap.size + 1, 0, none⟩ = some (.int .u8 0) := c0
  clear b10 b9 cT cP cF cC
  have HW := Lib.hid hw2
  clear hw2
  go_wp2_with fail
  have hb := below_put14 HW.out (by omega : w.heap.size ≤ w.heap.size + 1) 4 0 0 0
  unfold put14 at hb
  simp only [limb_zero] at hb
  replace hb := hb
  exact bodyPost_ret (v := .tuple #[PV 4 0 0 0, .int .i64 0]) (by simp [results, Tryd.results91, go_sem, parts, limb_zero, c0, c1, c2, c3, c4, c5, c6, c7, c8, c9, c10, c11, c12, c13]) rfl ⟨rfl, hb⟩
set_option maxHeartbeats 3200000 in
set_option maxRecDepth 100000 in
theorem kindUnpack_7 (f b e t p : Nat) (neg : Bool) (w : World) (hT : Tab w)
    (cT : ∀ w, Calls Tryd.prog 22 #[.int .u8 f, BV b] w fun e' w' => e' = .returned (.bool true) ∧ Below w.heap.size w w')
    (cP : ∀ w, Calls Tryd.prog 65 #[.int .u8 f] w fun e' w' => e' = .returned (.int .i64 (p : Nat)) ∧ Below w.heap.size w w')
    (cF : ∀ w, Tab w → Calls Tryd.prog 108 #[.int .u8 f, BV b] w fun e' w' => e' = .returned (.tuple #[.bool neg, .int .i64 (e : Nat), W t]) ∧ Below w.heap.size w w')
    (cC : ∀ w, Tab w → Calls Tryd.prog 94 #[.int .u8 f, BV b] w fun e' w' => e' = .returned (.int .u8 7) ∧ Below w.heap.size w w') :
    Calls Tryd.prog 91 #[.int .u8 f, BV b] w fun e' w' => e' = .returned (.tuple #[PV 7 0 0 0, .int .i64 0]) ∧ Below w.heap.size w w' := by
  have HT := Lib.hid hT
  clear hT
  go_enter Tryd.func91, Tryd.ntmps91
  go_wp2_with fail
  refine (cT _).mono ?_
  rintro e' w1 ⟨rfl, hb1⟩
  go_wp2_with fail
  refine (cP _).mono ?_
  rintro e' w2 ⟨rfl, hb2⟩
  have b4 : Blk 72 w2 (w.heap.size + 1) (parts 0 0 0 0) := by
    rw [parts_zero]
    have := (Blk.new (T := 72) (w.alloc (.cells #[.int .u64 (limb b 1), .int .u64 (limb b 0)] 27 (0, 0))) #[.int .u8 0, .int .u64 0, .int .u64 0, .int .u64 0, .int .u64 0, .int .u64 0, .int .u64 0, .int .i64 0, .int .u64 0, .int .u64 0, .int .u64 0, .int .u64 0, .int .u64 0, .int .u64 0]).below hb1 (by simp)
    have := this.below hb2 this.lt
    simpa using this
  have b3 : Blk 27 w2 w.heap.size #[.int .u64 (limb b 1), .int .u64 (limb b 0)] := by
    have h1 := ((Blk.new (T := 27) w #[.int .u64 (limb b 1), .int .u64 (limb b 0)]).alloc (.cells #[.int .u8 0, .int .u64 0, .int .u64 0, .int .u64 0, .int .u64 0, .int .u64 0, .int .u64 0, .int .i64 0, .int .u64 0, .int .u64 0, .int .u64 0, .int .u64 0, .int .u64 0, .int .u64 0] 72 (0, 0))).below hb1 (by simp <;> omega)
    exact h1.below hb2 h1.lt
  have hw2 := ((((Below.refl w.heap.size w).alloc (Nat.le_refl _) (.cells #[.int .u64 (limb b 1), .int .u64 (limb b 0)] 27 (0, 0))).alloc (by simp) (.cells #[.int .u8 0, .int .u64 0, .int .u64 0, .int .u64 0, .int .u64 0, .int .u64 0, .int .u64 0, .int .i64 0, .int .u64 0, .int .u64 0, .int .u64 0, .int .u64 0, .int .u64 0, .int .u64 0] 72 (0, 0))).trans (hb1.mono (by simp <;> omega))).trans (hb2.mono (by have := hb1.size; simp at this; omega))
  clear hb1 hb2
  have g0 := b3.cell 0 rfl
  have g1 := b3.cell 1 rfl
  go_wp2_with fail
  refine (cF _ (HT.out.below hw2)).mono ?_
  rintro e' w3 ⟨rfl, hb3⟩
  replace hw2 := (hw2.trans (hb3.mono (Nat.le_of_lt b3.lt))).alloc (by have := b3.lt; have := hb3.size; omega) (.cells (limbs t) 54 (0, 0))
  replace b4 := (b4.below hb3 b4.lt).alloc (.cells (limbs t) 54 (0, 0))
  replace b3 := (b3.below hb3 b3.lt).alloc (.cells (limbs t) 54 (0, 0))
  have b9 := Blk.new (T := 54) w3 (limbs t)
  clear g0 g1 hb3
  go_upto_region 5 with (fail)
  change Code.wp _ _ _ _ (w3.alloc (.cells (limbs t) 54 (0, 0)))
  generalize w3.alloc (.cells (limbs t) 54 (0, 0)) = v at *
  have g0 := b3.cell 0 rfl
  have g1 := b3.cell 1 rfl
  go_wp2_with fail
  refine (cC _ (HT.out.below hw2)).mono ?_
  rintro e' w4 ⟨rfl, hb4⟩
  replace hw2 := (hw2.trans (hb4.mono (Nat.le_of_lt b3.lt))).alloc (by have := b3.lt; have := hb4.size; omega) (.cells (parts 7 0 0 0) 72 (0, 0))
  replace b4 := (b4.below hb4 b4.lt).alloc (.cells (parts 7 0 0 0) 72 (0, 0))
  replace b9 := (b9.below hb4 b9.lt).alloc (.cells (parts 7 0 0 0) 72 (0, 0))
  have b10 := Blk.new (T := 72) w4 (parts 7 0 0 0)
  clear g0 g1 hb4 b3
  go_upto_region 6 with (fail)
  rw [← show parts 7 0 0 0 = #[.int .u8 7, .int .u64 0, .int .u64 0, .int .u64 0, .int .u64 0, .int .u64 0, .int .u64 0, .int .i64 0, .int .u64 0, .int .u64 0, .int .u64 0, .int .u64 0, .int .u64 0, .int .u64 0] from parts_zero 7]
  generalize w4.alloc (.cells (parts 7 0 0 0) 72 (0, 0)) = v at *
  obtain ⟨d0, d1, d2, d3, d4, d5, d6, d7, d8, d9, d10, d11, d12, d13⟩ := b10.p14
  obtain ⟨c0, c1, c2, c3, c4, c5, c6, c7, c8, c9, c10, c11, c12, c13⟩ := b4.p14
  obtain ⟨n0, n1, n2, n3, n4, n5, n6, n7, n8, n9, n10, n11, n12, n13⟩ := b4.free14
  simp only [limb_zero] at d0 d1 d2 d3 d4 d5 d6 d7 d8 d9 d10 d11 d12 d13 c0 c1 c2 c3 c4 c5 c6 c7 c8 c9 c10 c11 c12 c13
  replace d0 : v.cell? ⟨w4.heap.size, 0, none⟩ = some (.int .u8 7) := d0
  replace c0 : v.cell? ⟨w.heap.size + 1, 0, none⟩ = some (.int .u8 0) := c0
  clear b10 b9 cT cP cF cC
  have HW := Lib.hid hw2
  clear hw2
  go_wp2_with fail
  have hb := below_put14 HW.out (by omega : w.heap.size ≤ w.heap.size + 1) 7 0 0 0
  unfold put14 at hb
  simp only [limb_zero] at hb
  replace hb := hb
  exact bodyPost_ret (v := .tuple #[PV 7 0 0 0, .int .i64 0]) (by simp [results, Tryd.results91, go_sem, parts, limb_zero, c0, c1, c2, c3, c4, c5, c6, c7, c8, c9, c10, c11, c12, c13]) rfl ⟨rfl, hb⟩
end Go.Proofs.YtdcgcjmajacgiaaDoor

namespace Go.Proofs.YtdcgcjmajacgiaaDoor
open Go.RowKit
/-- A fraction stored. -/
def putFr (w : World) (g y : Nat) : World := ((((((w.setCell ⟨g, 8, none⟩ (.int .u64 (limb y 0))).setCell ⟨g, 9, none⟩ (.int .u64 (limb y 1))).setCell ⟨g, 10, none⟩ (.int .u64 (limb y 2))).setCell ⟨g, 11, none⟩ (.int .u64 (limb y 3))).setCell ⟨g, 12, none⟩ (.int .u64 (limb y 4))).setCell ⟨g, 13, none⟩ (.int .u64 (limb y 5)))
theorem Blk.putFr {T : TypeId} {w : World} {g c s : Nat} {x : Int} {f : Nat} (h : Blk T w g (parts c s x f)) (y : Nat) : Blk T (putFr w g y) g (parts c s x y) := by
  unfold Go.Proofs.YtdcgcjmajacgiaaDoor.putFr
  exact Blk.cast ((((((h.set 8 _ rfl).set 9 _ rfl).set 10 _ rfl).set 11 _ rfl).set 12 _ rfl).set 13 _ rfl) (by simp [parts])
theorem Blk.putFr_other {T : TypeId} {w : World} {g k : Nat} {cs : Array Value} (h : Blk T w g cs) (y : Nat) (hne : g ≠ k) : Blk T (Go.Proofs.YtdcgcjmajacgiaaDoor.putFr w k y) g cs := ((((((h.other _ _ hne).other _ _ hne).other _ _ hne).other _ _ hne).other _ _ hne).other _ _ hne)
theorem below_putFr {B : Nat} {w0 w : World} {g : Nat} (hb : Below B w0 w) (hg : B ≤ g) (y : Nat) : Below B w0 (putFr w g y) := ((((((hb.setCell hg _).setCell hg _).setCell hg _).setCell hg _).setCell hg _).setCell hg _)
set_option maxHeartbeats 3200000 in
set_option maxRecDepth 100000 in
theorem kindUnpack_8 (f b e t p : Nat) (neg : Bool) (w : World) (hT : Tab w)
    (cT : ∀ w, Calls Tryd.prog 22 #[.int .u8 f, BV b] w fun e' w' => e' = .returned (.bool true) ∧ Below w.heap.size w w')
    (cP : ∀ w, Calls Tryd.prog 65 #[.int .u8 f] w fun e' w' => e' = .returned (.int .i64 (p : Nat)) ∧ Below w.heap.size w w')
    (cF : ∀ w, Tab w → Calls Tryd.prog 108 #[.int .u8 f, BV b] w fun e' w' => e' = .returned (.tuple #[.bool neg, .int .i64 (e : Nat), W t]) ∧ Below w.heap.size w w')
    (cC : ∀ w, Tab w → Calls Tryd.prog 94 #[.int .u8 f, BV b] w fun e' w' => e' = .returned (.int .u8 8) ∧ Below w.heap.size w w') :
    Calls Tryd.prog 91 #[.int .u8 f, BV b] w fun e' w' => e' = .returned (.tuple #[PV 8 0 0 t, .int .i64 0]) ∧ Below w.heap.size w w' := by
  have HT := Lib.hid hT
  clear hT
  go_enter Tryd.func91, Tryd.ntmps91
  go_wp2_with fail
  refine (cT _).mono ?_
  rintro e' w1 ⟨rfl, hb1⟩
  go_wp2_with fail
  refine (cP _).mono ?_
  rintro e' w2 ⟨rfl, hb2⟩
  have b4 : Blk 72 w2 (w.heap.size + 1) (parts 0 0 0 0) := by
    rw [parts_zero]
    have := (Blk.new (T := 72) (w.alloc (.cells #[.int .u64 (limb b 1), .int .u64 (limb b 0)] 27 (0, 0))) #[.int .u8 0, .int .u64 0, .int .u64 0, .int .u64 0, .int .u64 0, .int .u64 0, .int .u64 0, .int .i64 0, .int .u64 0, .int .u64 0, .int .u64 0, .int .u64 0, .int .u64 0, .int .u64 0]).below hb1 (by simp)
    have := this.below hb2 this.lt
    simpa using this
  have b3 : Blk 27 w2 w.heap.size #[.int .u64 (limb b 1), .int .u64 (limb b 0)] := by
    have h1 := ((Blk.new (T := 27) w #[.int .u64 (limb b 1), .int .u64 (limb b 0)]).alloc (.cells #[.int .u8 0, .int .u64 0, .int .u64 0, .int .u64 0, .int .u64 0, .int .u64 0, .int .u64 0, .int .i64 0, .int .u64 0, .int .u64 0, .int .u64 0, .int .u64 0, .int .u64 0, .int .u64 0] 72 (0, 0))).below hb1 (by simp <;> omega)
    exact h1.below hb2 h1.lt
  have hw2 := ((((Below.refl w.heap.size w).alloc (Nat.le_refl _) (.cells #[.int .u64 (limb b 1), .int .u64 (limb b 0)] 27 (0, 0))).alloc (by simp) (.cells #[.int .u8 0, .int .u64 0, .int .u64 0, .int .u64 0, .int .u64 0, .int .u64 0, .int .u64 0, .int .i64 0, .int .u64 0, .int .u64 0, .int .u64 0, .int .u64 0, .int .u64 0, .int .u64 0] 72 (0, 0))).trans (hb1.mono (by simp <;> omega))).trans (hb2.mono (by have := hb1.size; simp at this; omega))
  clear hb1 hb2
  have g0 := b3.cell 0 rfl
  have g1 := b3.cell 1 rfl
  go_wp2_with fail
  refine (cF _ (HT.out.below hw2)).mono ?_
  rintro e' w3 ⟨rfl, hb3⟩
  replace hw2 := (hw2.trans (hb3.mono (Nat.le_of_lt b3.lt))).alloc (by have := b3.lt; have := hb3.size; omega) (.cells (limbs t) 54 (0, 0))
  replace b4 := (b4.below hb3 b4.lt).alloc (.cells (limbs t) 54 (0, 0))
  replace b3 := (b3.below hb3 b3.lt).alloc (.cells (limbs t) 54 (0, 0))
  have b9 := Blk.new (T := 54) w3 (limbs t)
  clear g0 g1 hb3
  go_upto_region 5 with (fail)
  change Code.wp _ _ _ _ (w3.alloc (.cells (limbs t) 54 (0, 0)))
  generalize w3.alloc (.cells (limbs t) 54 (0, 0)) = v at *
  have g0 := b3.cell 0 rfl
  have g1 := b3.cell 1 rfl
  go_wp2_with fail
  refine (cC _ (HT.out.below hw2)).mono ?_
  rintro e' w4 ⟨rfl, hb4⟩
  replace hw2 := (hw2.trans (hb4.mono (Nat.le_of_lt b3.lt))).alloc (by have := b3.lt; have := hb4.size; omega) (.cells (parts 8 0 0 0) 72 (0, 0))
  have nE : w.heap.size + 1 < w4.heap.size := (b4.below hb4 b4.lt).lt
  replace b4 := (b4.below hb4 b4.lt).alloc (.cells (parts 8 0 0 0) 72 (0, 0))
  replace b9 := (b9.below hb4 b9.lt).alloc (.cells (parts 8 0 0 0) 72 (0, 0))
  have b10 := Blk.new (T := 72) w4 (parts 8 0 0 0)
  clear g0 g1 hb4 b3
  go_upto_region 6 with (fail)
  rw [← show parts 8 0 0 0 = #[.int .u8 8, .int .u64 0, .int .u64 0, .int .u64 0, .int .u64 0, .int .u64 0, .int .u64 0, .int .i64 0, .int .u64 0, .int .u64 0, .int .u64 0, .int .u64 0, .int .u64 0, .int .u64 0] from parts_zero 8]
  generalize w4.alloc (.cells (parts 8 0 0 0) 72 (0, 0)) = v at *
  obtain ⟨d0, d1, d2, d3, d4, d5, d6, d7, d8, d9, d10, d11, d12, d13⟩ := b10.p14
  obtain ⟨c0, c1, c2, c3, c4, c5, c6, c7, c8, c9, c10, c11, c12, c13⟩ := b4.p14
  obtain ⟨n0, n1, n2, n3, n4, n5, n6, n7, n8, n9, n10, n11, n12, n13⟩ := b4.free14
  simp only [limb_zero] at d0 d1 d2 d3 d4 d5 d6 d7 d8 d9 d10 d11 d12 d13 c0 c1 c2 c3 c4 c5 c6 c7 c8 c9 c10 c11 c12 c13
  replace d0 : v.cell? ⟨w4.heap.size, 0, none⟩ = some (.int .u8 8) := d0
  replace c0 : v.cell? ⟨w.heap.size + 1, 0, none⟩ = some (.int .u8 0) := c0
  obtain ⟨m0, m1, m2, m3, m4, m5⟩ := b9.six
  obtain ⟨k0, k1, k2, k3, k4, k5, k6, k7, k8, k9, k10, k11, k12, k13⟩ := b10.free14
  have B10 := Lib.hid b10
  have B4 := Lib.hid b4
  clear b10 b9 b4 cT cP cF cC
  have HW := Lib.hid hw2
  have NE := Lib.hid nE
  clear hw2 nE
  go_upto_region 18 with (fail)
  have b10 := B10.out.putFr t
  have b4 := B4.out.putFr_other t (Nat.ne_of_lt NE.out)
  have hw := below_putFr HW.out (by have := NE.out; omega : w.heap.size ≤ w4.heap.size) t
  clear B10 B4 HW d0 d1 d2 d3 d4 d5 d6 d7 d8 d9 d10 d11 d12 d13 c0 c1 c2 c3 c4 c5 c6 c7 c8 c9 c10 c11 c12 c13 n0 n1 n2 n3 n4 n5 n6 n7 n8 n9 n10 n11 n12 n13 k0 k1 k2 k3 k4 k5 k6 k7 k8 k9 k10 k11 k12 k13 m0 m1 m2 m3 m4 m5
  change Code.wp _ _ _ _ (putFr v w4.heap.size t)
  generalize putFr v w4.heap.size t = u at *
  obtain ⟨d0, d1, d2, d3, d4, d5, d6, d7, d8, d9, d10, d11, d12, d13⟩ := b10.p14
  obtain ⟨c0, c1, c2, c3, c4, c5, c6, c7, c8, c9, c10, c11, c12, c13⟩ := b4.p14
  obtain ⟨n0, n1, n2, n3, n4, n5, n6, n7, n8, n9, n10, n11, n12, n13⟩ := b4.free14
  simp only [limb_zero] at d0 d1 d2 d3 d4 d5 d6 d7 d8 d9 d10 d11 d12 d13 c0 c1 c2 c3 c4 c5 c6 c7 c8 c9 c10 c11 c12 c13
  replace d0 : u.cell? ⟨w4.heap.size, 0, none⟩ = some (.int .u8 8) := d0
  replace c0 : u.cell? ⟨w.heap.size + 1, 0, none⟩ = some (.int .u8 0) := c0
  clear b10 b4
  have HW := Lib.hid hw
  clear hw
  go_wp2_with fail
  have hb := below_put14 HW.out (by omega : w.heap.size ≤ w.heap.size + 1) 8 0 0 t
  unfold put14 at hb
  simp only [limb_zero] at hb
  exact bodyPost_ret (v := .tuple #[PV 8 0 0 t, .int .i64 0]) (by simp [results, Tryd.results91, go_sem, parts, limb_zero, c0, c1, c2, c3, c4, c5, c6, c7, c8, c9, c10, c11, c12, c13]) rfl ⟨rfl, hb⟩
set_option maxHeartbeats 3200000 in
set_option maxRecDepth 100000 in
theorem kindUnpack_9 (f b e t p : Nat) (neg : Bool) (w : World) (hT : Tab w)
    (cT : ∀ w, Calls Tryd.prog 22 #[.int .u8 f, BV b] w fun e' w' => e' = .returned (.bool true) ∧ Below w.heap.size w w')
    (cP : ∀ w, Calls Tryd.prog 65 #[.int .u8 f] w fun e' w' => e' = .returned (.int .i64 (p : Nat)) ∧ Below w.heap.size w w')
    (cF : ∀ w, Tab w → Calls Tryd.prog 108 #[.int .u8 f, BV b] w fun e' w' => e' = .returned (.tuple #[.bool neg, .int .i64 (e : Nat), W t]) ∧ Below w.heap.size w w')
    (cC : ∀ w, Tab w → Calls Tryd.prog 94 #[.int .u8 f, BV b] w fun e' w' => e' = .returned (.int .u8 9) ∧ Below w.heap.size w w') :
    Calls Tryd.prog 91 #[.int .u8 f, BV b] w fun e' w' => e' = .returned (.tuple #[PV 9 0 0 t, .int .i64 0]) ∧ Below w.heap.size w w' := by
  have HT := Lib.hid hT
  clear hT
  go_enter Tryd.func91, Tryd.ntmps91
  go_wp2_with fail
  refine (cT _).mono ?_
  rintro e' w1 ⟨rfl, hb1⟩
  go_wp2_with fail
  refine (cP _).mono ?_
  rintro e' w2 ⟨rfl, hb2⟩
  have b4 : Blk 72 w2 (w.heap.size + 1) (parts 0 0 0 0) := by
    rw [parts_zero]
    have := (Blk.new (T := 72) (w.alloc (.cells #[.int .u64 (limb b 1), .int .u64 (limb b 0)] 27 (0, 0))) #[.int .u8 0, .int .u64 0, .int .u64 0, .int .u64 0, .int .u64 0, .int .u64 0, .int .u64 0, .int .i64 0, .int .u64 0, .int .u64 0, .int .u64 0, .int .u64 0, .int .u64 0, .int .u64 0]).below hb1 (by simp)
    have := this.below hb2 this.lt
    simpa using this
  have b3 : Blk 27 w2 w.heap.size #[.int .u64 (limb b 1), .int .u64 (limb b 0)] := by
    have h1 := ((Blk.new (T := 27) w #[.int .u64 (limb b 1), .int .u64 (limb b 0)]).alloc (.cells #[.int .u8 0, .int .u64 0, .int .u64 0, .int .u64 0, .int .u64 0, .int .u64 0, .int .u64 0, .int .i64 0, .int .u64 0, .int .u64 0, .int .u64 0, .int .u64 0, .int .u64 0, .int .u64 0] 72 (0, 0))).below hb1 (by simp <;> omega)
    exact h1.below hb2 h1.lt
  have hw2 := ((((Below.refl w.heap.size w).alloc (Nat.le_refl _) (.cells #[.int .u64 (limb b 1), .int .u64 (limb b 0)] 27 (0, 0))).alloc (by simp) (.cells #[.int .u8 0, .int .u64 0, .int .u64 0, .int .u64 0, .int .u64 0, .int .u64 0, .int .u64 0, .int .i64 0, .int .u64 0, .int .u64 0, .int .u64 0, .int .u64 0, .int .u64 0, .int .u64 0] 72 (0, 0))).trans (hb1.mono (by simp <;> omega))).trans (hb2.mono (by have := hb1.size; simp at this; omega))
  clear hb1 hb2
  have g0 := b3.cell 0 rfl
  have g1 := b3.cell 1 rfl
  go_wp2_with fail
  refine (cF _ (HT.out.below hw2)).mono ?_
  rintro e' w3 ⟨rfl, hb3⟩
  replace hw2 := (hw2.trans (hb3.mono (Nat.le_of_lt b3.lt))).alloc (by have := b3.lt; have := hb3.size; omega) (.cells (limbs t) 54 (0, 0))
  replace b4 := (b4.below hb3 b4.lt).alloc (.cells (limbs t) 54 (0, 0))
  replace b3 := (b3.below hb3 b3.lt).alloc (.cells (limbs t) 54 (0, 0))
  have b9 := Blk.new (T := 54) w3 (limbs t)
  clear g0 g1 hb3
  go_upto_region 5 with (fail)
  change Code.wp _ _ _ _ (w3.alloc (.cells (limbs t) 54 (0, 0)))
  generalize w3.alloc (.cells (limbs t) 54 (0, 0)) = v at *
  have g0 := b3.cell 0 rfl
  have g1 := b3.cell 1 rfl
  go_wp2_with fail
  refine (cC _ (HT.out.below hw2)).mono ?_
  rintro e' w4 ⟨rfl, hb4⟩
  replace hw2 := (hw2.trans (hb4.mono (Nat.le_of_lt b3.lt))).alloc (by have := b3.lt; have := hb4.size; omega) (.cells (parts 9 0 0 0) 72 (0, 0))
  have nE : w.heap.size + 1 < w4.heap.size := (b4.below hb4 b4.lt).lt
  replace b4 := (b4.below hb4 b4.lt).alloc (.cells (parts 9 0 0 0) 72 (0, 0))
  replace b9 := (b9.below hb4 b9.lt).alloc (.cells (parts 9 0 0 0) 72 (0, 0))
  have b10 := Blk.new (T := 72) w4 (parts 9 0 0 0)
  clear g0 g1 hb4 b3
  go_upto_region 6 with (fail)
  rw [← show parts 9 0 0 0 = #[.int .u8 9, .int .u64 0, .int .u64 0, .int .u64 0, .int .u64 0, .int .u64 0, .int .u64 0, .int .i64 0, .int .u64 0, .int .u64 0, .int .u64 0, .int .u64 0, .int .u64 0, .int .u64 0] from parts_zero 9]
  generalize w4.alloc (.cells (parts 9 0 0 0) 72 (0, 0)) = v at *
  obtain ⟨d0, d1, d2, d3, d4, d5, d6, d7, d8, d9, d10, d11, d12, d13⟩ := b10.p14
  obtain ⟨c0, c1, c2, c3, c4, c5, c6, c7, c8, c9, c10, c11, c12, c13⟩ := b4.p14
  obtain ⟨n0, n1, n2, n3, n4, n5, n6, n7, n8, n9, n10, n11, n12, n13⟩ := b4.free14
  simp only [limb_zero] at d0 d1 d2 d3 d4 d5 d6 d7 d8 d9 d10 d11 d12 d13 c0 c1 c2 c3 c4 c5 c6 c7 c8 c9 c10 c11 c12 c13
  replace d0 : v.cell? ⟨w4.heap.size, 0, none⟩ = some (.int .u8 9) := d0
  replace c0 : v.cell? ⟨w.heap.size + 1, 0, none⟩ = some (.int .u8 0) := c0
  obtain ⟨m0, m1, m2, m3, m4, m5⟩ := b9.six
  obtain ⟨k0, k1, k2, k3, k4, k5, k6, k7, k8, k9, k10, k11, k12, k13⟩ := b10.free14
  have B10 := Lib.hid b10
  have B4 := Lib.hid b4
  clear b10 b9 b4 cT cP cF cC
  have HW := Lib.hid hw2
  have NE := Lib.hid nE
  clear hw2 nE
  go_upto_region 18 with (fail)
  have b10 := B10.out.putFr t
  have b4 := B4.out.putFr_other t (Nat.ne_of_lt NE.out)
  have hw := below_putFr HW.out (by have := NE.out; omega : w.heap.size ≤ w4.heap.size) t
  clear B10 B4 HW d0 d1 d2 d3 d4 d5 d6 d7 d8 d9 d10 d11 d12 d13 c0 c1 c2 c3 c4 c5 c6 c7 c8 c9 c10 c11 c12 c13 n0 n1 n2 n3 n4 n5 n6 n7 n8 n9 n10 n11 n12 n13 k0 k1 k2 k3 k4 k5 k6 k7 k8 k9 k10 k11 k12 k13 m0 m1 m2 m3 m4 m5
  change Code.wp _ _ _ _ (putFr v w4.heap.size t)
  generalize putFr v w4.heap.size t = u at *
  obtain ⟨d0, d1, d2, d3, d4, d5, d6, d7, d8, d9, d10, d11, d12, d13⟩ := b10.p14
  obtain ⟨c0, c1, c2, c3, c4, c5, c6, c7, c8, c9, c10, c11, c12, c13⟩ := b4.p14
  obtain ⟨n0, n1, n2, n3, n4, n5, n6, n7, n8, n9, n10, n11, n12, n13⟩ := b4.free14
  simp only [limb_zero] at d0 d1 d2 d3 d4 d5 d6 d7 d8 d9 d10 d11 d12 d13 c0 c1 c2 c3 c4 c5 c6 c7 c8 c9 c10 c11 c12 c13
  replace d0 : u.cell? ⟨w4.heap.size, 0, none⟩ = some (.int .u8 9) := d0
  replace c0 : u.cell? ⟨w.heap.size + 1, 0, none⟩ = some (.int .u8 0) := c0
  clear b10 b4
  have HW := Lib.hid hw
  clear hw
  go_wp2_with fail
  have hb := below_put14 HW.out (by omega : w.heap.size ≤ w.heap.size + 1) 9 0 0 t
  unfold put14 at hb
  simp only [limb_zero] at hb
  exact bodyPost_ret (v := .tuple #[PV 9 0 0 t, .int .i64 0]) (by simp [results, Tryd.results91, go_sem, parts, limb_zero, c0, c1, c2, c3, c4, c5, c6, c7, c8, c9, c10, c11, c12, c13]) rfl ⟨rfl, hb⟩
end Go.Proofs.YtdcgcjmajacgiaaDoor
