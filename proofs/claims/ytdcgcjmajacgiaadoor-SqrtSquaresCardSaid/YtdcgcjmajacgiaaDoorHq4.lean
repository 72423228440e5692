/- Part 4 of what is proved: Sht, Pck, Opb. -/
import Derived.Test.YtdcgcjmajacgiaaDoorHq2
import Derived.Test.YtdcgcjmajacgiaaDoorHq3
set_option linter.unusedSimpArgs false
set_option linter.unusedVariables false
set_option linter.unnecessarySimpa false
namespace Go.Proofs.YtdcgcjmajacgiaaDoor
open Go.RowKit
set_option maxHeartbeats 1600000 in
set_option maxRecDepth 100000 in
theorem shapeGreatest_0 (neg : Bool) (w : World) :
    Calls Tryd.prog 107 #[.int .u8 0, .bool neg] w fun e w' => e = .returned (BV (greatN 0 neg)) ∧ Below w.heap.size w w' := by
  have H := Own.start w
  have cI : ∀ w, Calls Tryd.prog 18 #[.int .u8 0, .bool false] w fun e w' => e = .returned (.agg #[.int .u64 0, .int .u64 2139095040]) ∧ Below w.heap.size w w' := fun w => shapeInf_any 0 false w (by decide)
  have cW : ∀ w, Calls Tryd.prog 53 #[.int .u8 0, .agg #[.int .u64 0, .int .u64 2139095039], .bool neg] w fun e w' => e = .returned (BV (greatN 0 neg)) ∧ Below w.heap.size w w' := by
    intro w
    have := shapeWith_any 0 2139095039 neg w (by decide)
    rw [or_sign 0 2139095039 neg (by decide)] at this
    exact this
  have cC : ∀ w, Calls Tryd.prog 21 #[.int .u8 0] w fun e w' => e = .returned (.int .i64 0) ∧ w = w' := fun w => shapeCheck_any 0 w (by decide)
  have cN : ∀ w, Calls Tryd.prog 41 #[.int .u8 0] w fun e w' => e = .returned (.int .i64 32) ∧ Below w.heap.size w w' := fun w => shapeWidth_any 0 w (by decide)
  go_enter Tryd.func107, Tryd.ntmps107
  go_wp2_with (first
    | ((with_reducible show wpList _ _ _ (⟨_, .box _ _, _, _, _, _⟩ :: _) _ _); refine H.box rfl rfl (cells_agg _) ?_; (intro g w H; simp only [Act.put, List.setIfInBounds_toArray, List.set_cons_zero, List.set_cons_succ, List.set_nil]))
    | ((with_reducible show wpList _ _ _ (⟨_, .alloc 27, _, _, _, _⟩ :: _) _ _); refine H.new rfl (T := 27) rfl tB_z (cells_agg _) ?_; (intro g w H; simp only [Act.put, List.setIfInBounds_toArray, List.set_cons_zero, List.set_cons_succ, List.set_nil]))
    | ((with_reducible show wpList _ _ _ (⟨_, .alloc 25, _, _, _, _⟩ :: _) _ _); refine H.new rfl (T := 25) rfl tu_z (cells_int _ _) ?_; (intro g w H; simp only [Act.put, List.setIfInBounds_toArray, List.set_cons_zero, List.set_cons_succ, List.set_nil]))
    | ((with_reducible show wpList _ _ _ (⟨_, .load 27 _, _, _, _, _⟩ :: _) _ _); (first | refine H.load rfl (ty := 27) rfl rfl 0 rfl Tryd.underlying27 rfl (by with_reducible exact ext_2 _ _) (by exact tB_s) ?_ | refine H.load rfl (ty := 27) rfl rfl 1 rfl Tryd.underlying27 rfl (by with_reducible exact ext_2 _ _) (by exact tB_s) ?_); simp only [Act.put, List.setIfInBounds_toArray, List.set_cons_zero, List.set_cons_succ, List.set_nil])
    | ((with_reducible show wpList _ _ _ (⟨_, .load 25 _, _, _, _, _⟩ :: _) _ _); (first | refine H.load1 rfl (ty := 25) rfl rfl 0 rfl Tryd.underlying25 rfl (by with_reducible exact get_20 _ _) ?_ | refine H.load1 rfl (ty := 25) rfl rfl 0 rfl Tryd.underlying25 rfl (by with_reducible exact get_21 _ _) ?_ | refine H.load1 rfl (ty := 25) rfl rfl 0 rfl Tryd.underlying25 rfl (by with_reducible exact limbs_o0 _) ?_ | refine H.load1 rfl (ty := 25) rfl rfl 0 rfl Tryd.underlying25 rfl (by with_reducible exact limbs_o1 _) ?_ | refine H.load1 rfl (ty := 25) rfl rfl 0 rfl Tryd.underlying25 rfl (by with_reducible exact limbs_o2 _) ?_ | refine H.load1 rfl (ty := 25) rfl rfl 0 rfl Tryd.underlying25 rfl (by with_reducible exact limbs_o3 _) ?_ | refine H.load1 rfl (ty := 25) rfl rfl 0 rfl Tryd.underlying25 rfl (by with_reducible exact limbs_o4 _) ?_ | refine H.load1 rfl (ty := 25) rfl rfl 0 rfl Tryd.underlying25 rfl (by with_reducible exact limbs_o5 _) ?_ | refine H.load1 rfl (ty := 25) rfl rfl 0 rfl Tryd.underlying25 rfl (by with_reducible exact get_10 _) ?_ | refine H.load1 rfl (ty := 25) rfl rfl 1 rfl Tryd.underlying25 rfl (by with_reducible exact get_20 _ _) ?_ | refine H.load1 rfl (ty := 25) rfl rfl 1 rfl Tryd.underlying25 rfl (by with_reducible exact get_21 _ _) ?_ | refine H.load1 rfl (ty := 25) rfl rfl 1 rfl Tryd.underlying25 rfl (by with_reducible exact limbs_o0 _) ?_ | refine H.load1 rfl (ty := 25) rfl rfl 1 rfl Tryd.underlying25 rfl (by with_reducible exact limbs_o1 _) ?_ | refine H.load1 rfl (ty := 25) rfl rfl 1 rfl Tryd.underlying25 rfl (by with_reducible exact limbs_o2 _) ?_ | refine H.load1 rfl (ty := 25) rfl rfl 1 rfl Tryd.underlying25 rfl (by with_reducible exact limbs_o3 _) ?_ | refine H.load1 rfl (ty := 25) rfl rfl 1 rfl Tryd.underlying25 rfl (by with_reducible exact limbs_o4 _) ?_ | refine H.load1 rfl (ty := 25) rfl rfl 1 rfl Tryd.underlying25 rfl (by with_reducible exact limbs_o5 _) ?_ | refine H.load1 rfl (ty := 25) rfl rfl 1 rfl Tryd.underlying25 rfl (by with_reducible exact get_10 _) ?_); simp only [Act.put, List.setIfInBounds_toArray, List.set_cons_zero, List.set_cons_succ, List.set_nil])
    | ((with_reducible show wpList _ _ _ (⟨_, .store 27 _ _, _, _, _, _⟩ :: _) _ _); (first | refine H.store rfl (ty := 27) rfl rfl (cells_agg _) 0 rfl (by with_reducible exact set_all _ _ rfl) (by exact tB_s) (one_of rfl) (ble_le rfl) ?_ | refine H.store rfl (ty := 27) rfl rfl (cells_agg _) 1 rfl (by with_reducible exact set_all _ _ rfl) (by exact tB_s) (one_of rfl) (ble_le rfl) ?_); (intro w H; simp only [List.set_cons_zero, List.set_cons_succ] at H; simp only [Act.put, List.setIfInBounds_toArray, List.set_cons_zero, List.set_cons_succ, List.set_nil]))
    | ((with_reducible show wpList _ _ _ (⟨_, .store 25 _ _, _, _, _, _⟩ :: _) _ _); (first | refine H.store rfl (ty := 25) rfl rfl (cells_int _ _) 0 rfl (by with_reducible exact set_20 _ _ _) (by exact tu_s) (one_of rfl) (ble_le rfl) ?_ | refine H.store rfl (ty := 25) rfl rfl (cells_int _ _) 0 rfl (by with_reducible exact set_21 _ _ _) (by exact tu_s) (one_of rfl) (ble_le rfl) ?_ | refine H.store rfl (ty := 25) rfl rfl (cells_int _ _) 0 rfl (by with_reducible exact set_10 _ _) (by exact tu_s) (one_of rfl) (ble_le rfl) ?_ | refine H.store rfl (ty := 25) rfl rfl (cells_int _ _) 1 rfl (by with_reducible exact set_20 _ _ _) (by exact tu_s) (one_of rfl) (ble_le rfl) ?_ | refine H.store rfl (ty := 25) rfl rfl (cells_int _ _) 1 rfl (by with_reducible exact set_21 _ _ _) (by exact tu_s) (one_of rfl) (ble_le rfl) ?_ | refine H.store rfl (ty := 25) rfl rfl (cells_int _ _) 1 rfl (by with_reducible exact set_10 _ _) (by exact tu_s) (one_of rfl) (ble_le rfl) ?_); (intro w H; simp only [List.set_cons_zero, List.set_cons_succ] at H; simp only [Act.put, List.setIfInBounds_toArray, List.set_cons_zero, List.set_cons_succ, List.set_nil]))
    | (go_at_call 18; ((with_reducible refine (cI _).mono ?_); rintro e w ⟨rfl, hb⟩; replace H := H.call hb; clear hb))
    | (go_at_call 21; ((with_reducible refine (cC _).mono ?_); rintro e w' ⟨rfl, rfl⟩))
    | (go_at_call 41; ((with_reducible refine (cN _).mono ?_); rintro e w ⟨rfl, hb⟩; replace H := H.call hb; clear hb))
    | (go_at_call 53; ((with_reducible refine (cW _).mono ?_); rintro e w ⟨rfl, hb⟩; replace H := H.call hb; clear hb))
    )
  (first | refine bodyPost_ret (results_c rfl rfl (H.result 0 rfl Tryd.underlying27 rfl (by exact tB_s) (ext_2 _ _))) rfl ⟨?_, H.below⟩ | refine bodyPost_ret (results_c rfl rfl (H.result 1 rfl Tryd.underlying27 rfl (by exact tB_s) (ext_2 _ _))) rfl ⟨?_, H.below⟩)
  exact rfl
set_option maxHeartbeats 1600000 in
set_option maxRecDepth 100000 in
theorem shapeGreatest_1 (neg : Bool) (w : World) :
    Calls Tryd.prog 107 #[.int .u8 1, .bool neg] w fun e w' => e = .returned (BV (greatN 1 neg)) ∧ Below w.heap.size w w' := by
  have H := Own.start w
  have cI : ∀ w, Calls Tryd.prog 18 #[.int .u8 1, .bool false] w fun e w' => e = .returned (.agg #[.int .u64 0, .int .u64 9218868437227405312]) ∧ Below w.heap.size w w' := fun w => shapeInf_any 1 false w (by decide)
  have cW : ∀ w, Calls Tryd.prog 53 #[.int .u8 1, .agg #[.int .u64 0, .int .u64 9218868437227405311], .bool neg] w fun e w' => e = .returned (BV (greatN 1 neg)) ∧ Below w.heap.size w w' := by
    intro w
    have := shapeWith_any 1 9218868437227405311 neg w (by decide)
    rw [or_sign 1 9218868437227405311 neg (by decide)] at this
    exact this
  have cC : ∀ w, Calls Tryd.prog 21 #[.int .u8 1] w fun e w' => e = .returned (.int .i64 0) ∧ w = w' := fun w => shapeCheck_any 1 w (by decide)
  have cN : ∀ w, Calls Tryd.prog 41 #[.int .u8 1] w fun e w' => e = .returned (.int .i64 64) ∧ Below w.heap.size w w' := fun w => shapeWidth_any 1 w (by decide)
  go_enter Tryd.func107, Tryd.ntmps107
  go_wp2_with (first
    | ((with_reducible show wpList _ _ _ (⟨_, .box _ _, _, _, _, _⟩ :: _) _ _); refine H.box rfl rfl (cells_agg _) ?_; (intro g w H; simp only [Act.put, List.setIfInBounds_toArray, List.set_cons_zero, List.set_cons_succ, List.set_nil]))
    | ((with_reducible show wpList _ _ _ (⟨_, .alloc 27, _, _, _, _⟩ :: _) _ _); refine H.new rfl (T := 27) rfl tB_z (cells_agg _) ?_; (intro g w H; simp only [Act.put, List.setIfInBounds_toArray, List.set_cons_zero, List.set_cons_succ, List.set_nil]))
    | ((with_reducible show wpList _ _ _ (⟨_, .alloc 25, _, _, _, _⟩ :: _) _ _); refine H.new rfl (T := 25) rfl tu_z (cells_int _ _) ?_; (intro g w H; simp only [Act.put, List.setIfInBounds_toArray, List.set_cons_zero, List.set_cons_succ, List.set_nil]))
    | ((with_reducible show wpList _ _ _ (⟨_, .load 27 _, _, _, _, _⟩ :: _) _ _); (first | refine H.load rfl (ty := 27) rfl rfl 0 rfl Tryd.underlying27 rfl (by with_reducible exact ext_2 _ _) (by exact tB_s) ?_ | refine H.load rfl (ty := 27) rfl rfl 1 rfl Tryd.underlying27 rfl (by with_reducible exact ext_2 _ _) (by exact tB_s) ?_); simp only [Act.put, List.setIfInBounds_toArray, List.set_cons_zero, List.set_cons_succ, List.set_nil])
    | ((with_reducible show wpList _ _ _ (⟨_, .load 25 _, _, _, _, _⟩ :: _) _ _); (first | refine H.load1 rfl (ty := 25) rfl rfl 0 rfl Tryd.underlying25 rfl (by with_reducible exact get_20 _ _) ?_ | refine H.load1 rfl (ty := 25) rfl rfl 0 rfl Tryd.underlying25 rfl (by with_reducible exact get_21 _ _) ?_ | refine H.load1 rfl (ty := 25) rfl rfl 0 rfl Tryd.underlying25 rfl (by with_reducible exact limbs_o0 _) ?_ | refine H.load1 rfl (ty := 25) rfl rfl 0 rfl Tryd.underlying25 rfl (by with_reducible exact limbs_o1 _) ?_ | refine H.load1 rfl (ty := 25) rfl rfl 0 rfl Tryd.underlying25 rfl (by with_reducible exact limbs_o2 _) ?_ | refine H.load1 rfl (ty := 25) rfl rfl 0 rfl Tryd.underlying25 rfl (by with_reducible exact limbs_o3 _) ?_ | refine H.load1 rfl (ty := 25) rfl rfl 0 rfl Tryd.underlying25 rfl (by with_reducible exact limbs_o4 _) ?_ | refine H.load1 rfl (ty := 25) rfl rfl 0 rfl Tryd.underlying25 rfl (by with_reducible exact limbs_o5 _) ?_ | refine H.load1 rfl (ty := 25) rfl rfl 0 rfl Tryd.underlying25 rfl (by with_reducible exact get_10 _) ?_ | refine H.load1 rfl (ty := 25) rfl rfl 1 rfl Tryd.underlying25 rfl (by with_reducible exact get_20 _ _) ?_ | refine H.load1 rfl (ty := 25) rfl rfl 1 rfl Tryd.underlying25 rfl (by with_reducible exact get_21 _ _) ?_ | refine H.load1 rfl (ty := 25) rfl rfl 1 rfl Tryd.underlying25 rfl (by with_reducible exact limbs_o0 _) ?_ | refine H.load1 rfl (ty := 25) rfl rfl 1 rfl Tryd.underlying25 rfl (by with_reducible exact limbs_o1 _) ?_ | refine H.load1 rfl (ty := 25) rfl rfl 1 rfl Tryd.underlying25 rfl (by with_reducible exact limbs_o2 _) ?_ | refine H.load1 rfl (ty := 25) rfl rfl 1 rfl Tryd.underlying25 rfl (by with_reducible exact limbs_o3 _) ?_ | refine H.load1 rfl (ty := 25) rfl rfl 1 rfl Tryd.underlying25 rfl (by with_reducible exact limbs_o4 _) ?_ | refine H.load1 rfl (ty := 25) rfl rfl 1 rfl Tryd.underlying25 rfl (by with_reducible exact limbs_o5 _) ?_ | refine H.load1 rfl (ty := 25) rfl rfl 1 rfl Tryd.underlying25 rfl (by with_reducible exact get_10 _) ?_); simp only [Act.put, List.setIfInBounds_toArray, List.set_cons_zero, List.set_cons_succ, List.set_nil])
    | ((with_reducible show wpList _ _ _ (⟨_, .store 27 _ _, _, _, _, _⟩ :: _) _ _); (first | refine H.store rfl (ty := 27) rfl rfl (cells_agg _) 0 rfl (by with_reducible exact set_all _ _ rfl) (by exact tB_s) (one_of rfl) (ble_le rfl) ?_ | refine H.store rfl (ty := 27) rfl rfl (cells_agg _) 1 rfl (by with_reducible exact set_all _ _ rfl) (by exact tB_s) (one_of rfl) (ble_le rfl) ?_); (intro w H; simp only [List.set_cons_zero, List.set_cons_succ] at H; simp only [Act.put, List.setIfInBounds_toArray, List.set_cons_zero, List.set_cons_succ, List.set_nil]))
    | ((with_reducible show wpList _ _ _ (⟨_, .store 25 _ _, _, _, _, _⟩ :: _) _ _); (first | refine H.store rfl (ty := 25) rfl rfl (cells_int _ _) 0 rfl (by with_reducible exact set_20 _ _ _) (by exact tu_s) (one_of rfl) (ble_le rfl) ?_ | refine H.store rfl (ty := 25) rfl rfl (cells_int _ _) 0 rfl (by with_reducible exact set_21 _ _ _) (by exact tu_s) (one_of rfl) (ble_le rfl) ?_ | refine H.store rfl (ty := 25) rfl rfl (cells_int _ _) 0 rfl (by with_reducible exact set_10 _ _) (by exact tu_s) (one_of rfl) (ble_le rfl) ?_ | refine H.store rfl (ty := 25) rfl rfl (cells_int _ _) 1 rfl (by with_reducible exact set_20 _ _ _) (by exact tu_s) (one_of rfl) (ble_le rfl) ?_ | refine H.store rfl (ty := 25) rfl rfl (cells_int _ _) 1 rfl (by with_reducible exact set_21 _ _ _) (by exact tu_s) (one_of rfl) (ble_le rfl) ?_ | refine H.store rfl (ty := 25) rfl rfl (cells_int _ _) 1 rfl (by with_reducible exact set_10 _ _) (by exact tu_s) (one_of rfl) (ble_le rfl) ?_); (intro w H; simp only [List.set_cons_zero, List.set_cons_succ] at H; simp only [Act.put, List.setIfInBounds_toArray, List.set_cons_zero, List.set_cons_succ, List.set_nil]))
    | (go_at_call 18; ((with_reducible refine (cI _).mono ?_); rintro e w ⟨rfl, hb⟩; replace H := H.call hb; clear hb))
    | (go_at_call 21; ((with_reducible refine (cC _).mono ?_); rintro e w' ⟨rfl, rfl⟩))
    | (go_at_call 41; ((with_reducible refine (cN _).mono ?_); rintro e w ⟨rfl, hb⟩; replace H := H.call hb; clear hb))
    | (go_at_call 53; ((with_reducible refine (cW _).mono ?_); rintro e w ⟨rfl, hb⟩; replace H := H.call hb; clear hb))
    )
  (first | refine bodyPost_ret (results_c rfl rfl (H.result 0 rfl Tryd.underlying27 rfl (by exact tB_s) (ext_2 _ _))) rfl ⟨?_, H.below⟩ | refine bodyPost_ret (results_c rfl rfl (H.result 1 rfl Tryd.underlying27 rfl (by exact tB_s) (ext_2 _ _))) rfl ⟨?_, H.below⟩)
  exact rfl
set_option maxHeartbeats 1600000 in
set_option maxRecDepth 100000 in
theorem shapeGreatest_2 (neg : Bool) (w : World) :
    Calls Tryd.prog 107 #[.int .u8 2, .bool neg] w fun e w' => e = .returned (BV (greatN 2 neg)) ∧ Below w.heap.size w w' := by
  have H := Own.start w
  have cI : ∀ w, Calls Tryd.prog 18 #[.int .u8 2, .bool false] w fun e w' => e = .returned (.agg #[.int .u64 0, .int .u64 31744]) ∧ Below w.heap.size w w' := fun w => shapeInf_any 2 false w (by decide)
  have cW : ∀ w, Calls Tryd.prog 53 #[.int .u8 2, .agg #[.int .u64 0, .int .u64 31743], .bool neg] w fun e w' => e = .returned (BV (greatN 2 neg)) ∧ Below w.heap.size w w' := by
    intro w
    have := shapeWith_any 2 31743 neg w (by decide)
    rw [or_sign 2 31743 neg (by decide)] at this
    exact this
  have cC : ∀ w, Calls Tryd.prog 21 #[.int .u8 2] w fun e w' => e = .returned (.int .i64 0) ∧ w = w' := fun w => shapeCheck_any 2 w (by decide)
  have cN : ∀ w, Calls Tryd.prog 41 #[.int .u8 2] w fun e w' => e = .returned (.int .i64 16) ∧ Below w.heap.size w w' := fun w => shapeWidth_any 2 w (by decide)
  go_enter Tryd.func107, Tryd.ntmps107
  go_wp2_with (first
    | ((with_reducible show wpList _ _ _ (⟨_, .box _ _, _, _, _, _⟩ :: _) _ _); refine H.box rfl rfl (cells_agg _) ?_; (intro g w H; simp only [Act.put, List.setIfInBounds_toArray, List.set_cons_zero, List.set_cons_succ, List.set_nil]))
    | ((with_reducible show wpList _ _ _ (⟨_, .alloc 27, _, _, _, _⟩ :: _) _ _); refine H.new rfl (T := 27) rfl tB_z (cells_agg _) ?_; (intro g w H; simp only [Act.put, List.setIfInBounds_toArray, List.set_cons_zero, List.set_cons_succ, List.set_nil]))
    | ((with_reducible show wpList _ _ _ (⟨_, .alloc 25, _, _, _, _⟩ :: _) _ _); refine H.new rfl (T := 25) rfl tu_z (cells_int _ _) ?_; (intro g w H; simp only [Act.put, List.setIfInBounds_toArray, List.set_cons_zero, List.set_cons_succ, List.set_nil]))
    | ((with_reducible show wpList _ _ _ (⟨_, .load 27 _, _, _, _, _⟩ :: _) _ _); (first | refine H.load rfl (ty := 27) rfl rfl 0 rfl Tryd.underlying27 rfl (by with_reducible exact ext_2 _ _) (by exact tB_s) ?_ | refine H.load rfl (ty := 27) rfl rfl 1 rfl Tryd.underlying27 rfl (by with_reducible exact ext_2 _ _) (by exact tB_s) ?_); simp only [Act.put, List.setIfInBounds_toArray, List.set_cons_zero, List.set_cons_succ, List.set_nil])
    | ((with_reducible show wpList _ _ _ (⟨_, .load 25 _, _, _, _, _⟩ :: _) _ _); (first | refine H.load1 rfl (ty := 25) rfl rfl 0 rfl Tryd.underlying25 rfl (by with_reducible exact get_20 _ _) ?_ | refine H.load1 rfl (ty := 25) rfl rfl 0 rfl Tryd.underlying25 rfl (by with_reducible exact get_21 _ _) ?_ | refine H.load1 rfl (ty := 25) rfl rfl 0 rfl Tryd.underlying25 rfl (by with_reducible exact limbs_o0 _) ?_ | refine H.load1 rfl (ty := 25) rfl rfl 0 rfl Tryd.underlying25 rfl (by with_reducible exact limbs_o1 _) ?_ | refine H.load1 rfl (ty := 25) rfl rfl 0 rfl Tryd.underlying25 rfl (by with_reducible exact limbs_o2 _) ?_ | refine H.load1 rfl (ty := 25) rfl rfl 0 rfl Tryd.underlying25 rfl (by with_reducible exact limbs_o3 _) ?_ | refine H.load1 rfl (ty := 25) rfl rfl 0 rfl Tryd.underlying25 rfl (by with_reducible exact limbs_o4 _) ?_ | refine H.load1 rfl (ty := 25) rfl rfl 0 rfl Tryd.underlying25 rfl (by with_reducible exact limbs_o5 _) ?_ | refine H.load1 rfl (ty := 25) rfl rfl 0 rfl Tryd.underlying25 rfl (by with_reducible exact get_10 _) ?_ | refine H.load1 rfl (ty := 25) rfl rfl 1 rfl Tryd.underlying25 rfl (by with_reducible exact get_20 _ _) ?_ | refine H.load1 rfl (ty := 25) rfl rfl 1 rfl Tryd.underlying25 rfl (by with_reducible exact get_21 _ _) ?_ | refine H.load1 rfl (ty := 25) rfl rfl 1 rfl Tryd.underlying25 rfl (by with_reducible exact limbs_o0 _) ?_ | refine H.load1 rfl (ty := 25) rfl rfl 1 rfl Tryd.underlying25 rfl (by with_reducible exact limbs_o1 _) ?_ | refine H.load1 rfl (ty := 25) rfl rfl 1 rfl Tryd.underlying25 rfl (by with_reducible exact limbs_o2 _) ?_ | refine H.load1 rfl (ty := 25) rfl rfl 1 rfl Tryd.underlying25 rfl (by with_reducible exact limbs_o3 _) ?_ | refine H.load1 rfl (ty := 25) rfl rfl 1 rfl Tryd.underlying25 rfl (by with_reducible exact limbs_o4 _) ?_ | refine H.load1 rfl (ty := 25) rfl rfl 1 rfl Tryd.underlying25 rfl (by with_reducible exact limbs_o5 _) ?_ | refine H.load1 rfl (ty := 25) rfl rfl 1 rfl Tryd.underlying25 rfl (by with_reducible exact get_10 _) ?_); simp only [Act.put, List.setIfInBounds_toArray, List.set_cons_zero, List.set_cons_succ, List.set_nil])
    | ((with_reducible show wpList _ _ _ (⟨_, .store 27 _ _, _, _, _, _⟩ :: _) _ _); (first | refine H.store rfl (ty := 27) rfl rfl (cells_agg _) 0 rfl (by with_reducible exact set_all _ _ rfl) (by exact tB_s) (one_of rfl) (ble_le rfl) ?_ | refine H.store rfl (ty := 27) rfl rfl (cells_agg _) 1 rfl (by with_reducible exact set_all _ _ rfl) (by exact tB_s) (one_of rfl) (ble_le rfl) ?_); (intro w H; simp only [List.set_cons_zero, List.set_cons_succ] at H; simp only [Act.put, List.setIfInBounds_toArray, List.set_cons_zero, List.set_cons_succ, List.set_nil]))
    | ((with_reducible show wpList _ _ _ (⟨_, .store 25 _ _, _, _, _, _⟩ :: _) _ _); (first | refine H.store rfl (ty := 25) rfl rfl (cells_int _ _) 0 rfl (by with_reducible exact set_20 _ _ _) (by exact tu_s) (one_of rfl) (ble_le rfl) ?_ | refine H.store rfl (ty := 25) rfl rfl (cells_int _ _) 0 rfl (by with_reducible exact set_21 _ _ _) (by exact tu_s) (one_of rfl) (ble_le rfl) ?_ | refine H.store rfl (ty := 25) rfl rfl (cells_int _ _) 0 rfl (by with_reducible exact set_10 _ _) (by exact tu_s) (one_of rfl) (ble_le rfl) ?_ | refine H.store rfl (ty := 25) rfl rfl (cells_int _ _) 1 rfl (by with_reducible exact set_20 _ _ _) (by exact tu_s) (one_of rfl) (ble_le rfl) ?_ | refine H.store rfl (ty := 25) rfl rfl (cells_int _ _) 1 rfl (by with_reducible exact set_21 _ _ _) (by exact tu_s) (one_of rfl) (ble_le rfl) ?_ | refine H.store rfl (ty := 25) rfl rfl (cells_int _ _) 1 rfl (by with_reducible exact set_10 _ _) (by exact tu_s) (one_of rfl) (ble_le rfl) ?_); (intro w H; simp only [List.set_cons_zero, List.set_cons_succ] at H; simp only [Act.put, List.setIfInBounds_toArray, List.set_cons_zero, List.set_cons_succ, List.set_nil]))
    | (go_at_call 18; ((with_reducible refine (cI _).mono ?_); rintro e w ⟨rfl, hb⟩; replace H := H.call hb; clear hb))
    | (go_at_call 21; ((with_reducible refine (cC _).mono ?_); rintro e w' ⟨rfl, rfl⟩))
    | (go_at_call 41; ((with_reducible refine (cN _).mono ?_); rintro e w ⟨rfl, hb⟩; replace H := H.call hb; clear hb))
    | (go_at_call 53; ((with_reducible refine (cW _).mono ?_); rintro e w ⟨rfl, hb⟩; replace H := H.call hb; clear hb))
    )
  (first | refine bodyPost_ret (results_c rfl rfl (H.result 0 rfl Tryd.underlying27 rfl (by exact tB_s) (ext_2 _ _))) rfl ⟨?_, H.below⟩ | refine bodyPost_ret (results_c rfl rfl (H.result 1 rfl Tryd.underlying27 rfl (by exact tB_s) (ext_2 _ _))) rfl ⟨?_, H.below⟩)
  exact rfl
set_option maxHeartbeats 1600000 in
set_option maxRecDepth 100000 in
theorem shapeGreatest_3 (neg : Bool) (w : World) :
    Calls Tryd.prog 107 #[.int .u8 3, .bool neg] w fun e w' => e = .returned (BV (greatN 3 neg)) ∧ Below w.heap.size w w' := by
  have H := Own.start w
  have cI : ∀ w, Calls Tryd.prog 18 #[.int .u8 3, .bool false] w fun e w' => e = .returned (.agg #[.int .u64 9223090561878065152, .int .u64 0]) ∧ Below w.heap.size w w' := fun w => shapeInf_any 3 false w (by decide)
  have cW : ∀ w, Calls Tryd.prog 53 #[.int .u8 3, .agg #[.int .u64 9223090561878065151, .int .u64 (IntKind.u64.wrap (-1))], .bool neg] w fun e w' => e = .returned (BV (greatN 3 neg)) ∧ Below w.heap.size w w' := by
    intro w
    have := shapeWith_any 3 170135991163610696904058773219554885631 neg w (by decide)
    rw [or_sign 3 170135991163610696904058773219554885631 neg (by decide)] at this
    exact this
  have cC : ∀ w, Calls Tryd.prog 21 #[.int .u8 3] w fun e w' => e = .returned (.int .i64 0) ∧ w = w' := fun w => shapeCheck_any 3 w (by decide)
  have cN : ∀ w, Calls Tryd.prog 41 #[.int .u8 3] w fun e w' => e = .returned (.int .i64 128) ∧ Below w.heap.size w w' := fun w => shapeWidth_any 3 w (by decide)
  go_enter Tryd.func107, Tryd.ntmps107
  go_wp2_with (first
    | ((with_reducible show wpList _ _ _ (⟨_, .box _ _, _, _, _, _⟩ :: _) _ _); refine H.box rfl rfl (cells_agg _) ?_; (intro g w H; simp only [Act.put, List.setIfInBounds_toArray, List.set_cons_zero, List.set_cons_succ, List.set_nil]))
    | ((with_reducible show wpList _ _ _ (⟨_, .alloc 27, _, _, _, _⟩ :: _) _ _); refine H.new rfl (T := 27) rfl tB_z (cells_agg _) ?_; (intro g w H; simp only [Act.put, List.setIfInBounds_toArray, List.set_cons_zero, List.set_cons_succ, List.set_nil]))
    | ((with_reducible show wpList _ _ _ (⟨_, .alloc 25, _, _, _, _⟩ :: _) _ _); refine H.new rfl (T := 25) rfl tu_z (cells_int _ _) ?_; (intro g w H; simp only [Act.put, List.setIfInBounds_toArray, List.set_cons_zero, List.set_cons_succ, List.set_nil]))
    | ((with_reducible show wpList _ _ _ (⟨_, .load 27 _, _, _, _, _⟩ :: _) _ _); (first | refine H.load rfl (ty := 27) rfl rfl 0 rfl Tryd.underlying27 rfl (by with_reducible exact ext_2 _ _) (by exact tB_s) ?_ | refine H.load rfl (ty := 27) rfl rfl 1 rfl Tryd.underlying27 rfl (by with_reducible exact ext_2 _ _) (by exact tB_s) ?_); simp only [Act.put, List.setIfInBounds_toArray, List.set_cons_zero, List.set_cons_succ, List.set_nil])
    | ((with_reducible show wpList _ _ _ (⟨_, .load 25 _, _, _, _, _⟩ :: _) _ _); (first | refine H.load1 rfl (ty := 25) rfl rfl 0 rfl Tryd.underlying25 rfl (by with_reducible exact get_20 _ _) ?_ | refine H.load1 rfl (ty := 25) rfl rfl 0 rfl Tryd.underlying25 rfl (by with_reducible exact get_21 _ _) ?_ | refine H.load1 rfl (ty := 25) rfl rfl 0 rfl Tryd.underlying25 rfl (by with_reducible exact limbs_o0 _) ?_ | refine H.load1 rfl (ty := 25) rfl rfl 0 rfl Tryd.underlying25 rfl (by with_reducible exact limbs_o1 _) ?_ | refine H.load1 rfl (ty := 25) rfl rfl 0 rfl Tryd.underlying25 rfl (by with_reducible exact limbs_o2 _) ?_ | refine H.load1 rfl (ty := 25) rfl rfl 0 rfl Tryd.underlying25 rfl (by with_reducible exact limbs_o3 _) ?_ | refine H.load1 rfl (ty := 25) rfl rfl 0 rfl Tryd.underlying25 rfl (by with_reducible exact limbs_o4 _) ?_ | refine H.load1 rfl (ty := 25) rfl rfl 0 rfl Tryd.underlying25 rfl (by with_reducible exact limbs_o5 _) ?_ | refine H.load1 rfl (ty := 25) rfl rfl 0 rfl Tryd.underlying25 rfl (by with_reducible exact get_10 _) ?_ | refine H.load1 rfl (ty := 25) rfl rfl 1 rfl Tryd.underlying25 rfl (by with_reducible exact get_20 _ _) ?_ | refine H.load1 rfl (ty := 25) rfl rfl 1 rfl Tryd.underlying25 rfl (by with_reducible exact get_21 _ _) ?_ | refine H.load1 rfl (ty := 25) rfl rfl 1 rfl Tryd.underlying25 rfl (by with_reducible exact limbs_o0 _) ?_ | refine H.load1 rfl (ty := 25) rfl rfl 1 rfl Tryd.underlying25 rfl (by with_reducible exact limbs_o1 _) ?_ | refine H.load1 rfl (ty := 25) rfl rfl 1 rfl Tryd.underlying25 rfl (by with_reducible exact limbs_o2 _) ?_ | refine H.load1 rfl (ty := 25) rfl rfl 1 rfl Tryd.underlying25 rfl (by with_reducible exact limbs_o3 _) ?_ | refine H.load1 rfl (ty := 25) rfl rfl 1 rfl Tryd.underlying25 rfl (by with_reducible exact limbs_o4 _) ?_ | refine H.load1 rfl (ty := 25) rfl rfl 1 rfl Tryd.underlying25 rfl (by with_reducible exact limbs_o5 _) ?_ | refine H.load1 rfl (ty := 25) rfl rfl 1 rfl Tryd.underlying25 rfl (by with_reducible exact get_10 _) ?_); simp only [Act.put, List.setIfInBounds_toArray, List.set_cons_zero, List.set_cons_succ, List.set_nil])
    | ((with_reducible show wpList _ _ _ (⟨_, .store 27 _ _, _, _, _, _⟩ :: _) _ _); (first | refine H.store rfl (ty := 27) rfl rfl (cells_agg _) 0 rfl (by with_reducible exact set_all _ _ rfl) (by exact tB_s) (one_of rfl) (ble_le rfl) ?_ | refine H.store rfl (ty := 27) rfl rfl (cells_agg _) 1 rfl (by with_reducible exact set_all _ _ rfl) (by exact tB_s) (one_of rfl) (ble_le rfl) ?_); (intro w H; simp only [List.set_cons_zero, List.set_cons_succ] at H; simp only [Act.put, List.setIfInBounds_toArray, List.set_cons_zero, List.set_cons_succ, List.set_nil]))
    | ((with_reducible show wpList _ _ _ (⟨_, .store 25 _ _, _, _, _, _⟩ :: _) _ _); (first | refine H.store rfl (ty := 25) rfl rfl (cells_int _ _) 0 rfl (by with_reducible exact set_20 _ _ _) (by exact tu_s) (one_of rfl) (ble_le rfl) ?_ | refine H.store rfl (ty := 25) rfl rfl (cells_int _ _) 0 rfl (by with_reducible exact set_21 _ _ _) (by exact tu_s) (one_of rfl) (ble_le rfl) ?_ | refine H.store rfl (ty := 25) rfl rfl (cells_int _ _) 0 rfl (by with_reducible exact set_10 _ _) (by exact tu_s) (one_of rfl) (ble_le rfl) ?_ | refine H.store rfl (ty := 25) rfl rfl (cells_int _ _) 1 rfl (by with_reducible exact set_20 _ _ _) (by exact tu_s) (one_of rfl) (ble_le rfl) ?_ | refine H.store rfl (ty := 25) rfl rfl (cells_int _ _) 1 rfl (by with_reducible exact set_21 _ _ _) (by exact tu_s) (one_of rfl) (ble_le rfl) ?_ | refine H.store rfl (ty := 25) rfl rfl (cells_int _ _) 1 rfl (by with_reducible exact set_10 _ _) (by exact tu_s) (one_of rfl) (ble_le rfl) ?_); (intro w H; simp only [List.set_cons_zero, List.set_cons_succ] at H; simp only [Act.put, List.setIfInBounds_toArray, List.set_cons_zero, List.set_cons_succ, List.set_nil]))
    | (go_at_call 18; ((with_reducible refine (cI _).mono ?_); rintro e w ⟨rfl, hb⟩; replace H := H.call hb; clear hb))
    | (go_at_call 21; ((with_reducible refine (cC _).mono ?_); rintro e w' ⟨rfl, rfl⟩))
    | (go_at_call 41; ((with_reducible refine (cN _).mono ?_); rintro e w ⟨rfl, hb⟩; replace H := H.call hb; clear hb))
    | (go_at_call 53; ((with_reducible refine (cW _).mono ?_); rintro e w ⟨rfl, hb⟩; replace H := H.call hb; clear hb))
    )
  (first | refine bodyPost_ret (results_c rfl rfl (H.result 0 rfl Tryd.underlying27 rfl (by exact tB_s) (ext_2 _ _))) rfl ⟨?_, H.below⟩ | refine bodyPost_ret (results_c rfl rfl (H.result 1 rfl Tryd.underlying27 rfl (by exact tB_s) (ext_2 _ _))) rfl ⟨?_, H.below⟩)
  exact rfl
set_option maxHeartbeats 1600000 in
set_option maxRecDepth 100000 in
theorem shapeGreatest_no (f : Nat) (neg : Bool) (w : World) (hf : f < 256) (h4 : ¬ f < 4) :
    Calls Tryd.prog 107 #[.int .u8 f, .bool neg] w fun e w' => e = .returned (BV (greatN f neg)) ∧ Below w.heap.size w w' := by
  have H := Own.start w
  rw [show greatN f neg = 0 by unfold greatN; rw [decide_eq_false h4]; rfl]
  have cI : ∀ w, Calls Tryd.prog 18 #[.int .u8 f, .bool false] w fun e w' => e = .returned (.agg #[.int .u64 0, .int .u64 0]) ∧ Below w.heap.size w w' := by
    intro w
    have := shapeInf_any f false w hf
    rw [show infN f false = 0 by unfold infN; rw [decide_eq_false h4]; rfl] at this
    exact this
  go_enter Tryd.func107, Tryd.ntmps107
  go_wp2_with (first
    | ((with_reducible show wpList _ _ _ (⟨_, .box _ _, _, _, _, _⟩ :: _) _ _); refine H.box rfl rfl (cells_agg _) ?_; (intro g w H; simp only [Act.put, List.setIfInBounds_toArray, List.set_cons_zero, List.set_cons_succ, List.set_nil]))
    | ((with_reducible show wpList _ _ _ (⟨_, .alloc 27, _, _, _, _⟩ :: _) _ _); refine H.new rfl (T := 27) rfl tB_z (cells_agg _) ?_; (intro g w H; simp only [Act.put, List.setIfInBounds_toArray, List.set_cons_zero, List.set_cons_succ, List.set_nil]))
    | ((with_reducible show wpList _ _ _ (⟨_, .alloc 25, _, _, _, _⟩ :: _) _ _); refine H.new rfl (T := 25) rfl tu_z (cells_int _ _) ?_; (intro g w H; simp only [Act.put, List.setIfInBounds_toArray, List.set_cons_zero, List.set_cons_succ, List.set_nil]))
    | ((with_reducible show wpList _ _ _ (⟨_, .load 27 _, _, _, _, _⟩ :: _) _ _); (first | refine H.load rfl (ty := 27) rfl rfl 0 rfl Tryd.underlying27 rfl (by with_reducible exact ext_2 _ _) (by exact tB_s) ?_ | refine H.load rfl (ty := 27) rfl rfl 1 rfl Tryd.underlying27 rfl (by with_reducible exact ext_2 _ _) (by exact tB_s) ?_); simp only [Act.put, List.setIfInBounds_toArray, List.set_cons_zero, List.set_cons_succ, List.set_nil])
    | ((with_reducible show wpList _ _ _ (⟨_, .load 25 _, _, _, _, _⟩ :: _) _ _); (first | refine H.load1 rfl (ty := 25) rfl rfl 0 rfl Tryd.underlying25 rfl (by with_reducible exact get_20 _ _) ?_ | refine H.load1 rfl (ty := 25) rfl rfl 0 rfl Tryd.underlying25 rfl (by with_reducible exact get_21 _ _) ?_ | refine H.load1 rfl (ty := 25) rfl rfl 0 rfl Tryd.underlying25 rfl (by with_reducible exact limbs_o0 _) ?_ | refine H.load1 rfl (ty := 25) rfl rfl 0 rfl Tryd.underlying25 rfl (by with_reducible exact limbs_o1 _) ?_ | refine H.load1 rfl (ty := 25) rfl rfl 0 rfl Tryd.underlying25 rfl (by with_reducible exact limbs_o2 _) ?_ | refine H.load1 rfl (ty := 25) rfl rfl 0 rfl Tryd.underlying25 rfl (by with_reducible exact limbs_o3 _) ?_ | refine H.load1 rfl (ty := 25) rfl rfl 0 rfl Tryd.underlying25 rfl (by with_reducible exact limbs_o4 _) ?_ | refine H.load1 rfl (ty := 25) rfl rfl 0 rfl Tryd.underlying25 rfl (by with_reducible exact limbs_o5 _) ?_ | refine H.load1 rfl (ty := 25) rfl rfl 0 rfl Tryd.underlying25 rfl (by with_reducible exact get_10 _) ?_ | refine H.load1 rfl (ty := 25) rfl rfl 1 rfl Tryd.underlying25 rfl (by with_reducible exact get_20 _ _) ?_ | refine H.load1 rfl (ty := 25) rfl rfl 1 rfl Tryd.underlying25 rfl (by with_reducible exact get_21 _ _) ?_ | refine H.load1 rfl (ty := 25) rfl rfl 1 rfl Tryd.underlying25 rfl (by with_reducible exact limbs_o0 _) ?_ | refine H.load1 rfl (ty := 25) rfl rfl 1 rfl Tryd.underlying25 rfl (by with_reducible exact limbs_o1 _) ?_ | refine H.load1 rfl (ty := 25) rfl rfl 1 rfl Tryd.underlying25 rfl (by with_reducible exact limbs_o2 _) ?_ | refine H.load1 rfl (ty := 25) rfl rfl 1 rfl Tryd.underlying25 rfl (by with_reducible exact limbs_o3 _) ?_ | refine H.load1 rfl (ty := 25) rfl rfl 1 rfl Tryd.underlying25 rfl (by with_reducible exact limbs_o4 _) ?_ | refine H.load1 rfl (ty := 25) rfl rfl 1 rfl Tryd.underlying25 rfl (by with_reducible exact limbs_o5 _) ?_ | refine H.load1 rfl (ty := 25) rfl rfl 1 rfl Tryd.underlying25 rfl (by with_reducible exact get_10 _) ?_); simp only [Act.put, List.setIfInBounds_toArray, List.set_cons_zero, List.set_cons_succ, List.set_nil])
    | ((with_reducible show wpList _ _ _ (⟨_, .store 27 _ _, _, _, _, _⟩ :: _) _ _); (first | refine H.store rfl (ty := 27) rfl rfl (cells_agg _) 0 rfl (by with_reducible exact set_all _ _ rfl) (by exact tB_s) (one_of rfl) (ble_le rfl) ?_ | refine H.store rfl (ty := 27) rfl rfl (cells_agg _) 1 rfl (by with_reducible exact set_all _ _ rfl) (by exact tB_s) (one_of rfl) (ble_le rfl) ?_); (intro w H; simp only [List.set_cons_zero, List.set_cons_succ] at H; simp only [Act.put, List.setIfInBounds_toArray, List.set_cons_zero, List.set_cons_succ, List.set_nil]))
    | ((with_reducible show wpList _ _ _ (⟨_, .store 25 _ _, _, _, _, _⟩ :: _) _ _); (first | refine H.store rfl (ty := 25) rfl rfl (cells_int _ _) 0 rfl (by with_reducible exact set_20 _ _ _) (by exact tu_s) (one_of rfl) (ble_le rfl) ?_ | refine H.store rfl (ty := 25) rfl rfl (cells_int _ _) 0 rfl (by with_reducible exact set_21 _ _ _) (by exact tu_s) (one_of rfl) (ble_le rfl) ?_ | refine H.store rfl (ty := 25) rfl rfl (cells_int _ _) 0 rfl (by with_reducible exact set_10 _ _) (by exact tu_s) (one_of rfl) (ble_le rfl) ?_ | refine H.store rfl (ty := 25) rfl rfl (cells_int _ _) 1 rfl (by with_reducible exact set_20 _ _ _) (by exact tu_s) (one_of rfl) (ble_le rfl) ?_ | refine H.store rfl (ty := 25) rfl rfl (cells_int _ _) 1 rfl (by with_reducible exact set_21 _ _ _) (by exact tu_s) (one_of rfl) (ble_le rfl) ?_ | refine H.store rfl (ty := 25) rfl rfl (cells_int _ _) 1 rfl (by with_reducible exact set_10 _ _) (by exact tu_s) (one_of rfl) (ble_le rfl) ?_); (intro w H; simp only [List.set_cons_zero, List.set_cons_succ] at H; simp only [Act.put, List.setIfInBounds_toArray, List.set_cons_zero, List.set_cons_succ, List.set_nil]))
    | (go_at_call 18; ((with_reducible refine (cI _).mono ?_); rintro e w ⟨rfl, hb⟩; replace H := H.call hb; clear hb))
    )
  (first | refine bodyPost_ret (results_c rfl rfl (H.result 0 rfl Tryd.underlying27 rfl (by exact tB_s) (ext_2 _ _))) rfl ⟨?_, H.below⟩ | refine bodyPost_ret (results_c rfl rfl (H.result 1 rfl Tryd.underlying27 rfl (by exact tB_s) (ext_2 _ _))) rfl ⟨?_, H.below⟩)
  exact rfl
theorem shapeGreatest_any (f : Nat) (neg : Bool) (w : World) (hf : f < 256) :
    Calls Tryd.prog 107 #[.int .u8 f, .bool neg] w fun e w' => e = .returned (BV (greatN f neg)) ∧ Below w.heap.size w w' := by
  rcases forms f with rfl | rfl | rfl | rfl | h
  · exact shapeGreatest_0 neg w
  · exact shapeGreatest_1 neg w
  · exact shapeGreatest_2 neg w
  · exact shapeGreatest_3 neg w
  · exact shapeGreatest_no f neg w hf (by omega)
set_option maxHeartbeats 1600000 in
set_option maxRecDepth 100000 in
theorem roundRight_no (f m : Nat) (w : World) (hf : f < 256) (h4 : ¬ f < 4) :
    Calls Tryd.prog 85 #[.int .u8 f, .int .u8 m] w fun e w' => e = .returned (.bool false) ∧ w = w' := by
  go_enter Tryd.func85, Tryd.ntmps85
  go_wp2_with (first | (go_at_call 21; ((with_reducible refine (shapeCheck_any f _ hf).mono ?_); rw [decide_eq_false h4]; rintro e w' ⟨rfl, rfl⟩)))
  go_ret
  exact ⟨rfl, rfl⟩
set_option maxHeartbeats 1600000 in
set_option maxRecDepth 100000 in
theorem roundRight_yes (f m : Nat) (w : World) (hf : f < 256) (hm : m < 256) (h4 : f < 4) :
    Calls Tryd.prog 85 #[.int .u8 f, .int .u8 m] w fun e w' => e = .returned (.bool (decide (m < 5))) ∧ w = w' := by
  by_cases h5 : m < 5
  · rw [decide_eq_true h5]
    go_enter Tryd.func85, Tryd.ntmps85
    go_wp2_with (first | (go_at_call 21; ((with_reducible refine (shapeCheck_any f _ hf).mono ?_); rw [decide_eq_true h4]; rintro e w' ⟨rfl, rfl⟩)) | (go_at_call 9; ((with_reducible refine (shapeCheckMode_any m _ hm).mono ?_); rw [decide_eq_true h5]; rintro e w' ⟨rfl, rfl⟩)))
    go_ret
    exact ⟨rfl, rfl⟩
  rw [decide_eq_false h5]
  go_enter Tryd.func85, Tryd.ntmps85
  go_wp2_with (first | (go_at_call 21; ((with_reducible refine (shapeCheck_any f _ hf).mono ?_); rw [decide_eq_true h4]; rintro e w' ⟨rfl, rfl⟩)) | (go_at_call 9; ((with_reducible refine (shapeCheckMode_any m _ hm).mono ?_); rw [decide_eq_false h5]; rintro e w' ⟨rfl, rfl⟩)))
  go_ret
  exact ⟨rfl, rfl⟩
theorem roundRight_any (f m : Nat) (w : World) (hf : f < 256) (hm : m < 256) :
    Calls Tryd.prog 85 #[.int .u8 f, .int .u8 m] w fun e w' => e = .returned (.bool (decide (f < 4) && decide (m < 5))) ∧ w = w' := by
  by_cases h4 : f < 4
  · rw [decide_eq_true h4, Bool.true_and]; exact roundRight_yes f m w hf hm h4
  · rw [decide_eq_false h4, Bool.false_and]; exact roundRight_no f m w hf h4
set_option maxHeartbeats 1600000 in
set_option maxRecDepth 100000 in
theorem roundOver_0 (f : Nat) (neg : Bool) (w : World) (hf : f < 256) (cR : ∀ w, Calls Tryd.prog 85 #[.int .u8 f, .int .u8 0] w fun e w' => e = .returned (.bool true) ∧ w = w') :
    Calls Tryd.prog 87 #[.int .u8 f, .int .u8 0, .bool neg] w fun e w' => e = .returned (.tuple #[BV (infN f neg), .int .u8 5, .int .i64 0]) ∧ Below w.heap.size w w' := by
  have H := Own.start w
  go_enter Tryd.func87, Tryd.ntmps87
  go_wp2_with (first
    | ((with_reducible show wpList _ _ _ (⟨_, .box _ _, _, _, _, _⟩ :: _) _ _); refine H.box rfl rfl (cells_agg _) ?_; (intro g w H; simp only [Act.put, List.setIfInBounds_toArray, List.set_cons_zero, List.set_cons_succ, List.set_nil]))
    | ((with_reducible show wpList _ _ _ (⟨_, .alloc 27, _, _, _, _⟩ :: _) _ _); refine H.new rfl (T := 27) rfl tB_z (cells_agg _) ?_; (intro g w H; simp only [Act.put, List.setIfInBounds_toArray, List.set_cons_zero, List.set_cons_succ, List.set_nil]))
    | ((with_reducible show wpList _ _ _ (⟨_, .load 27 _, _, _, _, _⟩ :: _) _ _); refine H.load rfl (ty := 27) rfl rfl 0 rfl Tryd.underlying27 rfl (by with_reducible exact ext_2 _ _) (by exact tB_s) ?_; simp only [Act.put, List.setIfInBounds_toArray, List.set_cons_zero, List.set_cons_succ, List.set_nil])
    | ((with_reducible show wpList _ _ _ (⟨_, .store 27 _ _, _, _, _, _⟩ :: _) _ _); refine H.store rfl (ty := 27) rfl rfl (cells_agg _) 0 rfl (by with_reducible exact set_all _ _ rfl) (by exact tB_s) (one_of rfl) (ble_le rfl) ?_; (intro w H; simp only [List.set_cons_zero, List.set_cons_succ] at H; simp only [Act.put, List.setIfInBounds_toArray, List.set_cons_zero, List.set_cons_succ, List.set_nil]))
    | (go_at_call 85; ((with_reducible refine (cR _).mono ?_); rintro e w' ⟨rfl, rfl⟩))
    | (go_at_call 107; ((with_reducible refine (shapeGreatest_any f neg _ hf).mono ?_); rintro e w ⟨rfl, hb⟩; replace H := H.call hb; clear hb))
    | (go_at_call 18; ((with_reducible refine (shapeInf_any f neg _ hf).mono ?_); rintro e w ⟨rfl, hb⟩; replace H := H.call hb; clear hb))
    )
  refine bodyPost_ret (results_ctt rfl rfl (H.result 0 rfl Tryd.underlying27 rfl (by exact tB_s) (ext_2 _ _))) rfl ⟨?_, H.below⟩
  exact rfl
set_option maxHeartbeats 1600000 in
set_option maxRecDepth 100000 in
theorem roundOver_1 (f : Nat) (neg : Bool) (w : World) (hf : f < 256) (cR : ∀ w, Calls Tryd.prog 85 #[.int .u8 f, .int .u8 1] w fun e w' => e = .returned (.bool true) ∧ w = w') :
    Calls Tryd.prog 87 #[.int .u8 f, .int .u8 1, .bool neg] w fun e w' => e = .returned (.tuple #[BV (greatN f neg), .int .u8 5, .int .i64 0]) ∧ Below w.heap.size w w' := by
  have H := Own.start w
  go_enter Tryd.func87, Tryd.ntmps87
  go_wp2_with (first
    | ((with_reducible show wpList _ _ _ (⟨_, .box _ _, _, _, _, _⟩ :: _) _ _); refine H.box rfl rfl (cells_agg _) ?_; (intro g w H; simp only [Act.put, List.setIfInBounds_toArray, List.set_cons_zero, List.set_cons_succ, List.set_nil]))
    | ((with_reducible show wpList _ _ _ (⟨_, .alloc 27, _, _, _, _⟩ :: _) _ _); refine H.new rfl (T := 27) rfl tB_z (cells_agg _) ?_; (intro g w H; simp only [Act.put, List.setIfInBounds_toArray, List.set_cons_zero, List.set_cons_succ, List.set_nil]))
    | ((with_reducible show wpList _ _ _ (⟨_, .load 27 _, _, _, _, _⟩ :: _) _ _); refine H.load rfl (ty := 27) rfl rfl 0 rfl Tryd.underlying27 rfl (by with_reducible exact ext_2 _ _) (by exact tB_s) ?_; simp only [Act.put, List.setIfInBounds_toArray, List.set_cons_zero, List.set_cons_succ, List.set_nil])
    | ((with_reducible show wpList _ _ _ (⟨_, .store 27 _ _, _, _, _, _⟩ :: _) _ _); refine H.store rfl (ty := 27) rfl rfl (cells_agg _) 0 rfl (by with_reducible exact set_all _ _ rfl) (by exact tB_s) (one_of rfl) (ble_le rfl) ?_; (intro w H; simp only [List.set_cons_zero, List.set_cons_succ] at H; simp only [Act.put, List.setIfInBounds_toArray, List.set_cons_zero, List.set_cons_succ, List.set_nil]))
    | (go_at_call 85; ((with_reducible refine (cR _).mono ?_); rintro e w' ⟨rfl, rfl⟩))
    | (go_at_call 107; ((with_reducible refine (shapeGreatest_any f neg _ hf).mono ?_); rintro e w ⟨rfl, hb⟩; replace H := H.call hb; clear hb))
    | (go_at_call 18; ((with_reducible refine (shapeInf_any f neg _ hf).mono ?_); rintro e w ⟨rfl, hb⟩; replace H := H.call hb; clear hb))
    )
  refine bodyPost_ret (results_ctt rfl rfl (H.result 0 rfl Tryd.underlying27 rfl (by exact tB_s) (ext_2 _ _))) rfl ⟨?_, H.below⟩
  exact rfl
set_option maxHeartbeats 1600000 in
set_option maxRecDepth 100000 in
theorem roundOver_2t (f : Nat) (w : World) (hf : f < 256) (cR : ∀ w, Calls Tryd.prog 85 #[.int .u8 f, .int .u8 2] w fun e w' => e = .returned (.bool true) ∧ w = w') :
    Calls Tryd.prog 87 #[.int .u8 f, .int .u8 2, .bool true] w fun e w' => e = .returned (.tuple #[BV (infN f true), .int .u8 5, .int .i64 0]) ∧ Below w.heap.size w w' := by
  have H := Own.start w
  go_enter Tryd.func87, Tryd.ntmps87
  go_wp2_with (first
    | ((with_reducible show wpList _ _ _ (⟨_, .box _ _, _, _, _, _⟩ :: _) _ _); refine H.box rfl rfl (cells_agg _) ?_; (intro g w H; simp only [Act.put, List.setIfInBounds_toArray, List.set_cons_zero, List.set_cons_succ, List.set_nil]))
    | ((with_reducible show wpList _ _ _ (⟨_, .alloc 27, _, _, _, _⟩ :: _) _ _); refine H.new rfl (T := 27) rfl tB_z (cells_agg _) ?_; (intro g w H; simp only [Act.put, List.setIfInBounds_toArray, List.set_cons_zero, List.set_cons_succ, List.set_nil]))
    | ((with_reducible show wpList _ _ _ (⟨_, .load 27 _, _, _, _, _⟩ :: _) _ _); refine H.load rfl (ty := 27) rfl rfl 0 rfl Tryd.underlying27 rfl (by with_reducible exact ext_2 _ _) (by exact tB_s) ?_; simp only [Act.put, List.setIfInBounds_toArray, List.set_cons_zero, List.set_cons_succ, List.set_nil])
    | ((with_reducible show wpList _ _ _ (⟨_, .store 27 _ _, _, _, _, _⟩ :: _) _ _); refine H.store rfl (ty := 27) rfl rfl (cells_agg _) 0 rfl (by with_reducible exact set_all _ _ rfl) (by exact tB_s) (one_of rfl) (ble_le rfl) ?_; (intro w H; simp only [List.set_cons_zero, List.set_cons_succ] at H; simp only [Act.put, List.setIfInBounds_toArray, List.set_cons_zero, List.set_cons_succ, List.set_nil]))
    | (go_at_call 85; ((with_reducible refine (cR _).mono ?_); rintro e w' ⟨rfl, rfl⟩))
    | (go_at_call 107; ((with_reducible refine (shapeGreatest_any f true _ hf).mono ?_); rintro e w ⟨rfl, hb⟩; replace H := H.call hb; clear hb))
    | (go_at_call 18; ((with_reducible refine (shapeInf_any f true _ hf).mono ?_); rintro e w ⟨rfl, hb⟩; replace H := H.call hb; clear hb))
    )
  refine bodyPost_ret (results_ctt rfl rfl (H.result 0 rfl Tryd.underlying27 rfl (by exact tB_s) (ext_2 _ _))) rfl ⟨?_, H.below⟩
  exact rfl
set_option maxHeartbeats 1600000 in
set_option maxRecDepth 100000 in
theorem roundOver_2f (f : Nat) (w : World) (hf : f < 256) (cR : ∀ w, Calls Tryd.prog 85 #[.int .u8 f, .int .u8 2] w fun e w' => e = .returned (.bool true) ∧ w = w') :
    Calls Tryd.prog 87 #[.int .u8 f, .int .u8 2, .bool false] w fun e w' => e = .returned (.tuple #[BV (greatN f false), .int .u8 5, .int .i64 0]) ∧ Below w.heap.size w w' := by
  have H := Own.start w
  go_enter Tryd.func87, Tryd.ntmps87
  go_wp2_with (first
    | ((with_reducible show wpList _ _ _ (⟨_, .box _ _, _, _, _, _⟩ :: _) _ _); refine H.box rfl rfl (cells_agg _) ?_; (intro g w H; simp only [Act.put, List.setIfInBounds_toArray, List.set_cons_zero, List.set_cons_succ, List.set_nil]))
    | ((with_reducible show wpList _ _ _ (⟨_, .alloc 27, _, _, _, _⟩ :: _) _ _); refine H.new rfl (T := 27) rfl tB_z (cells_agg _) ?_; (intro g w H; simp only [Act.put, List.setIfInBounds_toArray, List.set_cons_zero, List.set_cons_succ, List.set_nil]))
    | ((with_reducible show wpList _ _ _ (⟨_, .load 27 _, _, _, _, _⟩ :: _) _ _); refine H.load rfl (ty := 27) rfl rfl 0 rfl Tryd.underlying27 rfl (by with_reducible exact ext_2 _ _) (by exact tB_s) ?_; simp only [Act.put, List.setIfInBounds_toArray, List.set_cons_zero, List.set_cons_succ, List.set_nil])
    | ((with_reducible show wpList _ _ _ (⟨_, .store 27 _ _, _, _, _, _⟩ :: _) _ _); refine H.store rfl (ty := 27) rfl rfl (cells_agg _) 0 rfl (by with_reducible exact set_all _ _ rfl) (by exact tB_s) (one_of rfl) (ble_le rfl) ?_; (intro w H; simp only [List.set_cons_zero, List.set_cons_succ] at H; simp only [Act.put, List.setIfInBounds_toArray, List.set_cons_zero, List.set_cons_succ, List.set_nil]))
    | (go_at_call 85; ((with_reducible refine (cR _).mono ?_); rintro e w' ⟨rfl, rfl⟩))
    | (go_at_call 107; ((with_reducible refine (shapeGreatest_any f false _ hf).mono ?_); rintro e w ⟨rfl, hb⟩; replace H := H.call hb; clear hb))
    | (go_at_call 18; ((with_reducible refine (shapeInf_any f false _ hf).mono ?_); rintro e w ⟨rfl, hb⟩; replace H := H.call hb; clear hb))
    )
  refine bodyPost_ret (results_ctt rfl rfl (H.result 0 rfl Tryd.underlying27 rfl (by exact tB_s) (ext_2 _ _))) rfl ⟨?_, H.below⟩
  exact rfl
set_option maxHeartbeats 1600000 in
set_option maxRecDepth 100000 in
theorem roundOver_3t (f : Nat) (w : World) (hf : f < 256) (cR : ∀ w, Calls Tryd.prog 85 #[.int .u8 f, .int .u8 3] w fun e w' => e = .returned (.bool true) ∧ w = w') :
    Calls Tryd.prog 87 #[.int .u8 f, .int .u8 3, .bool true] w fun e w' => e = .returned (.tuple #[BV (greatN f true), .int .u8 5, .int .i64 0]) ∧ Below w.heap.size w w' := by
  have H := Own.start w
  go_enter Tryd.func87, Tryd.ntmps87
  go_wp2_with (first
    | ((with_reducible show wpList _ _ _ (⟨_, .box _ _, _, _, _, _⟩ :: _) _ _); refine H.box rfl rfl (cells_agg _) ?_; (intro g w H; simp only [Act.put, List.setIfInBounds_toArray, List.set_cons_zero, List.set_cons_succ, List.set_nil]))
    | ((with_reducible show wpList _ _ _ (⟨_, .alloc 27, _, _, _, _⟩ :: _) _ _); refine H.new rfl (T := 27) rfl tB_z (cells_agg _) ?_; (intro g w H; simp only [Act.put, List.setIfInBounds_toArray, List.set_cons_zero, List.set_cons_succ, List.set_nil]))
    | ((with_reducible show wpList _ _ _ (⟨_, .load 27 _, _, _, _, _⟩ :: _) _ _); refine H.load rfl (ty := 27) rfl rfl 0 rfl Tryd.underlying27 rfl (by with_reducible exact ext_2 _ _) (by exact tB_s) ?_; simp only [Act.put, List.setIfInBounds_toArray, List.set_cons_zero, List.set_cons_succ, List.set_nil])
    | ((with_reducible show wpList _ _ _ (⟨_, .store 27 _ _, _, _, _, _⟩ :: _) _ _); refine H.store rfl (ty := 27) rfl rfl (cells_agg _) 0 rfl (by with_reducible exact set_all _ _ rfl) (by exact tB_s) (one_of rfl) (ble_le rfl) ?_; (intro w H; simp only [List.set_cons_zero, List.set_cons_succ] at H; simp only [Act.put, List.setIfInBounds_toArray, List.set_cons_zero, List.set_cons_succ, List.set_nil]))
    | (go_at_call 85; ((with_reducible refine (cR _).mono ?_); rintro e w' ⟨rfl, rfl⟩))
    | (go_at_call 107; ((with_reducible refine (shapeGreatest_any f true _ hf).mono ?_); rintro e w ⟨rfl, hb⟩; replace H := H.call hb; clear hb))
    | (go_at_call 18; ((with_reducible refine (shapeInf_any f true _ hf).mono ?_); rintro e w ⟨rfl, hb⟩; replace H := H.call hb; clear hb))
    )
  refine bodyPost_ret (results_ctt rfl rfl (H.result 0 rfl Tryd.underlying27 rfl (by exact tB_s) (ext_2 _ _))) rfl ⟨?_, H.below⟩
  exact rfl
set_option maxHeartbeats 1600000 in
set_option maxRecDepth 100000 in
theorem roundOver_3f (f : Nat) (w : World) (hf : f < 256) (cR : ∀ w, Calls Tryd.prog 85 #[.int .u8 f, .int .u8 3] w fun e w' => e = .returned (.bool true) ∧ w = w') :
    Calls Tryd.prog 87 #[.int .u8 f, .int .u8 3, .bool false] w fun e w' => e = .returned (.tuple #[BV (infN f false), .int .u8 5, .int .i64 0]) ∧ Below w.heap.size w w' := by
  have H := Own.start w
  go_enter Tryd.func87, Tryd.ntmps87
  go_wp2_with (first
    | ((with_reducible show wpList _ _ _ (⟨_, .box _ _, _, _, _, _⟩ :: _) _ _); refine H.box rfl rfl (cells_agg _) ?_; (intro g w H; simp only [Act.put, List.setIfInBounds_toArray, List.set_cons_zero, List.set_cons_succ, List.set_nil]))
    | ((with_reducible show wpList _ _ _ (⟨_, .alloc 27, _, _, _, _⟩ :: _) _ _); refine H.new rfl (T := 27) rfl tB_z (cells_agg _) ?_; (intro g w H; simp only [Act.put, List.setIfInBounds_toArray, List.set_cons_zero, List.set_cons_succ, List.set_nil]))
    | ((with_reducible show wpList _ _ _ (⟨_, .load 27 _, _, _, _, _⟩ :: _) _ _); refine H.load rfl (ty := 27) rfl rfl 0 rfl Tryd.underlying27 rfl (by with_reducible exact ext_2 _ _) (by exact tB_s) ?_; simp only [Act.put, List.setIfInBounds_toArray, List.set_cons_zero, List.set_cons_succ, List.set_nil])
    | ((with_reducible show wpList _ _ _ (⟨_, .store 27 _ _, _, _, _, _⟩ :: _) _ _); refine H.store rfl (ty := 27) rfl rfl (cells_agg _) 0 rfl (by with_reducible exact set_all _ _ rfl) (by exact tB_s) (one_of rfl) (ble_le rfl) ?_; (intro w H; simp only [List.set_cons_zero, List.set_cons_succ] at H; simp only [Act.put, List.setIfInBounds_toArray, List.set_cons_zero, List.set_cons_succ, List.set_nil]))
    | (go_at_call 85; ((with_reducible refine (cR _).mono ?_); rintro e w' ⟨rfl, rfl⟩))
    | (go_at_call 107; ((with_reducible refine (shapeGreatest_any f false _ hf).mono ?_); rintro e w ⟨rfl, hb⟩; replace H := H.call hb; clear hb))
    | (go_at_call 18; ((with_reducible refine (shapeInf_any f false _ hf).mono ?_); rintro e w ⟨rfl, hb⟩; replace H := H.call hb; clear hb))
    )
  refine bodyPost_ret (results_ctt rfl rfl (H.result 0 rfl Tryd.underlying27 rfl (by exact tB_s) (ext_2 _ _))) rfl ⟨?_, H.below⟩
  exact rfl
set_option maxHeartbeats 1600000 in
set_option maxRecDepth 100000 in
theorem roundOver_4 (f : Nat) (neg : Bool) (w : World) (hf : f < 256) (cR : ∀ w, Calls Tryd.prog 85 #[.int .u8 f, .int .u8 4] w fun e w' => e = .returned (.bool true) ∧ w = w') :
    Calls Tryd.prog 87 #[.int .u8 f, .int .u8 4, .bool neg] w fun e w' => e = .returned (.tuple #[BV (infN f neg), .int .u8 5, .int .i64 0]) ∧ Below w.heap.size w w' := by
  have H := Own.start w
  go_enter Tryd.func87, Tryd.ntmps87
  go_wp2_with (first
    | ((with_reducible show wpList _ _ _ (⟨_, .box _ _, _, _, _, _⟩ :: _) _ _); refine H.box rfl rfl (cells_agg _) ?_; (intro g w H; simp only [Act.put, List.setIfInBounds_toArray, List.set_cons_zero, List.set_cons_succ, List.set_nil]))
    | ((with_reducible show wpList _ _ _ (⟨_, .alloc 27, _, _, _, _⟩ :: _) _ _); refine H.new rfl (T := 27) rfl tB_z (cells_agg _) ?_; (intro g w H; simp only [Act.put, List.setIfInBounds_toArray, List.set_cons_zero, List.set_cons_succ, List.set_nil]))
    | ((with_reducible show wpList _ _ _ (⟨_, .load 27 _, _, _, _, _⟩ :: _) _ _); refine H.load rfl (ty := 27) rfl rfl 0 rfl Tryd.underlying27 rfl (by with_reducible exact ext_2 _ _) (by exact tB_s) ?_; simp only [Act.put, List.setIfInBounds_toArray, List.set_cons_zero, List.set_cons_succ, List.set_nil])
    | ((with_reducible show wpList _ _ _ (⟨_, .store 27 _ _, _, _, _, _⟩ :: _) _ _); refine H.store rfl (ty := 27) rfl rfl (cells_agg _) 0 rfl (by with_reducible exact set_all _ _ rfl) (by exact tB_s) (one_of rfl) (ble_le rfl) ?_; (intro w H; simp only [List.set_cons_zero, List.set_cons_succ] at H; simp only [Act.put, List.setIfInBounds_toArray, List.set_cons_zero, List.set_cons_succ, List.set_nil]))
    | (go_at_call 85; ((with_reducible refine (cR _).mono ?_); rintro e w' ⟨rfl, rfl⟩))
    | (go_at_call 107; ((with_reducible refine (shapeGreatest_any f neg _ hf).mono ?_); rintro e w ⟨rfl, hb⟩; replace H := H.call hb; clear hb))
    | (go_at_call 18; ((with_reducible refine (shapeInf_any f neg _ hf).mono ?_); rintro e w ⟨rfl, hb⟩; replace H := H.call hb; clear hb))
    )
  refine bodyPost_ret (results_ctt rfl rfl (H.result 0 rfl Tryd.underlying27 rfl (by exact tB_s) (ext_2 _ _))) rfl ⟨?_, H.below⟩
  exact rfl
theorem roundOver_any (f m : Nat) (neg : Bool) (w : World) (hf : f < 4) (hm : m < 5) :
    Calls Tryd.prog 87 #[.int .u8 f, .int .u8 m, .bool neg] w fun e w' => e = .returned (.tuple #[BV (overN f m neg), .int .u8 5, .int .i64 0]) ∧ Below w.heap.size w w' := by
  have cR := fun w => roundRight_any f m w (by omega) (by omega)
  rw [decide_eq_true hf, decide_eq_true hm] at cR
  have : m = 0 ∨ m = 1 ∨ m = 2 ∨ m = 3 ∨ m = 4 := by omega
  rcases this with rfl | rfl | rfl | rfl | rfl
  · exact roundOver_0 f neg w (by omega) cR
  · exact roundOver_1 f neg w (by omega) cR
  · cases neg
    · exact roundOver_2f f w (by omega) cR
    · exact roundOver_2t f w (by omega) cR
  · cases neg
    · exact roundOver_3f f w (by omega) cR
    · exact roundOver_3t f w (by omega) cR
  · exact roundOver_4 f neg w (by omega) cR
end Go.Proofs.YtdcgcjmajacgiaaDoor

namespace Go.Proofs.YtdcgcjmajacgiaaDoor
open Go.RowKit
theorem set_bits (a b c d : Value) : setRow #[a, b] 0 (#[c, d] : Array Value).toList = #[c, d] := set_all _ _ rfl
set_option maxRecDepth 100000 in
theorem walk89 {P : Prop} (h : P := by
  go_wp2_with (first
    | ((with_reducible show wpList _ _ _ (⟨_, .box _ _, _, _, _, _⟩ :: _) _ _); refine H.box rfl rfl (cells_agg _) ?_; (intro g w H; simp only [Act.put, List.setIfInBounds_toArray, List.set_cons_zero, List.set_cons_succ]))
    | ((with_reducible show wpList _ _ _ (⟨_, .load 57 _, _, _, _, _⟩ :: _) _ _); refine H.ld rfl rR rfl rfl (by repeat (first | with_reducible exact List.mem_cons_self | apply List.mem_cons_of_mem)) (by first | with_reducible exact ext_rough _ _ _ _) (by rfl) ?_; simp only [Act.put, List.setIfInBounds_toArray, List.set_cons_zero, List.set_cons_succ])
    | ((with_reducible show wpList _ _ _ (⟨_, .store 57 _ _, _, _, _, _⟩ :: _) _ _); refine H.st rfl rR rfl rfl (cells_agg _) (by repeat (first | with_reducible exact Upd.head _ | apply Upd.tail)) (by first | with_reducible exact set_all _ _ rfl) (by rfl) (by exact one_of rfl) (by first | exact ble_le rfl | (change _ + 1 ≤ 12; omega) | (change _ + 1 ≤ 6; omega)) ?_; (intro w H; simp only [Act.put]))
    | ((with_reducible show wpList _ _ _ (⟨_, .alloc 54, _, _, _, _⟩ :: _) _ _); refine H.mk0 rfl rW rfl ?_; (intro g w H; simp only [Act.put, List.setIfInBounds_toArray, List.set_cons_zero, List.set_cons_succ]))
    | ((with_reducible show wpList _ _ _ (⟨_, .load 54 _, _, _, _, _⟩ :: _) _ _); refine H.ld rfl rW rfl rfl (by repeat (first | with_reducible exact List.mem_cons_self | apply List.mem_cons_of_mem)) (by first | with_reducible exact ext_limbs _ | with_reducible exact ext_parts_s _ _ _ _ | with_reducible exact ext_rough_s _ _ _ _ | with_reducible exact ext_parts_f _ _ _ _) (by rfl) ?_; simp only [Act.put, List.setIfInBounds_toArray, List.set_cons_zero, List.set_cons_succ])
    | ((with_reducible show wpList _ _ _ (⟨_, .store 54 _ _, _, _, _, _⟩ :: _) _ _); refine H.st rfl rW rfl rfl (cells_agg _) (by repeat (first | with_reducible exact Upd.head _ | apply Upd.tail)) (set_limbs _ _) (by rfl) (by exact one_of rfl) (by first | exact ble_le rfl | (change _ + 1 ≤ 12; omega) | (change _ + 1 ≤ 6; omega)) ?_; (intro w H; simp only [Act.put]))
    | (go_at_call 86; ((with_reducible refine (cE _).mono ?_); rintro e w ⟨rfl, hb⟩; replace H := H.call hb; clear hb))
    | (go_at_call 65; ((with_reducible refine (cP _).mono ?_); rintro e w ⟨rfl, hb⟩; replace H := H.call hb; clear hb))
    | (go_at_call 88; ((with_reducible refine (cG _ (HT.out.below H.below)).mono ?_); rintro e w ⟨rfl, hb⟩; replace H := H.call hb; clear hb))
    | (go_at_call 78; ((with_reducible refine (cK _).mono ?_); rintro e w ⟨rfl, hb⟩; replace H := H.call hb; clear hb))
    )
  all_goals (go_ret; exact ⟨rfl, H.below⟩)) : P := h
set_option maxHeartbeats 1600000 in
set_option maxRecDepth 100000 in
theorem roundTiny_ne (f m s p : Nat) (e top lo : Int) (neg mo : Bool) (w : World) (hT : Tab w) (hp : p ≤ 113) (l1 : -20000 ≤ lo) (l2 : lo ≤ 20000) (t1 : -1100000 ≤ top) (t2 : top ≤ 1100000) (hne : (top == lo - 1) = false) (cE : ∀ w, Calls Tryd.prog 86 #[.int .u8 f] w fun e w' => e = .returned (.int .i64 lo) ∧ Below w.heap.size w w') (cP : ∀ w, Calls Tryd.prog 65 #[.int .u8 f] w fun e w' => e = .returned (.int .i64 (p : Nat)) ∧ Below w.heap.size w w') :
    Calls Tryd.prog 89 #[.int .u8 f, .int .u8 m, RV neg s e mo, .int .i64 top] w fun e w' => e = .returned (.bool (decide (top < lo))) ∧ Below w.heap.size w w' := by
  have H := Own.start w
  have HT := Lib.hid hT
  clear hT
  have hne2 : (top != lo - 1) = true := by rw [bne, hne]; rfl
  go_enter Tryd.func89, Tryd.ntmps89
  exact walk89
set_option maxHeartbeats 1600000 in
set_option maxRecDepth 100000 in
theorem roundTiny_eq (f m s p k lk : Nat) (e top lo at_ : Int) (neg mo ex : Bool) (w : World) (hT : Tab w) (hp : p ≤ 113) (l1 : -20000 ≤ lo) (l2 : lo ≤ 20000) (t1 : -1100000 ≤ top) (t2 : top ≤ 1100000) (heq : (top == lo - 1) = true) (ha : top - (p : Int) + 1 = at_) (cE : ∀ w, Calls Tryd.prog 86 #[.int .u8 f] w fun e w' => e = .returned (.int .i64 lo) ∧ Below w.heap.size w w') (cP : ∀ w, Calls Tryd.prog 65 #[.int .u8 f] w fun e w' => e = .returned (.int .i64 (p : Nat)) ∧ Below w.heap.size w w') (cG : ∀ w, Tab w → Calls Tryd.prog 88 #[.int .u8 m, RV neg s e mo, .int .i64 at_] w fun e w' => e = .returned (.tuple #[W k, .bool ex]) ∧ Below w.heap.size w w') (cK : ∀ w, Calls Tryd.prog 78 #[W k] w fun e w' => e = .returned (.int .i64 (lk : Nat)) ∧ Below w.heap.size w w') :
    Calls Tryd.prog 89 #[.int .u8 f, .int .u8 m, RV neg s e mo, .int .i64 top] w fun e w' => e = .returned (.bool (decide (lk ≤ p))) ∧ Below w.heap.size w w' := by
  have H := Own.start w
  have HT := Lib.hid hT
  clear hT
  have hne2 : (top != lo - 1) = false := by rw [bne, heq]; rfl
  go_enter Tryd.func89, Tryd.ntmps89
  exact walk89
set_option maxRecDepth 100000 in
theorem walk32 {P : Prop} (h : P := by
  go_wp2_with (first
    | ((with_reducible show wpList _ _ _ (⟨_, .box _ _, _, _, _, _⟩ :: _) _ _); refine H.box rfl rfl (cells_agg _) ?_; (intro g w H; simp only [Act.put, List.setIfInBounds_toArray, List.set_cons_zero, List.set_cons_succ]))
    | ((with_reducible show wpList _ _ _ (⟨_, .alloc 27, _, _, _, _⟩ :: _) _ _); refine H.mk0 rfl rB rfl ?_; (intro g w H; simp only [Act.put, List.setIfInBounds_toArray, List.set_cons_zero, List.set_cons_succ]))
    | ((with_reducible show wpList _ _ _ (⟨_, .load 57 _, _, _, _, _⟩ :: _) _ _); refine H.ld rfl rR rfl rfl (by repeat (first | with_reducible exact List.mem_cons_self | apply List.mem_cons_of_mem)) (by first | with_reducible exact ext_rough _ _ _ _) (by rfl) ?_; simp only [Act.put, List.setIfInBounds_toArray, List.set_cons_zero, List.set_cons_succ])
    | ((with_reducible show wpList _ _ _ (⟨_, .load 3 _, _, _, _, _⟩ :: _) _ _); refine H.ld1 rfl oI rfl rfl (by repeat (first | with_reducible exact List.mem_cons_self | apply List.mem_cons_of_mem)) (by first | with_reducible exact get_rough7 _ _ _ _ | with_reducible exact get_parts7 _ _ _ _ | with_reducible exact get_10 _) ?_; simp only [Act.put, List.setIfInBounds_toArray, List.set_cons_zero, List.set_cons_succ])
    | ((with_reducible show wpList _ _ _ (⟨_, .load 4 _, _, _, _, _⟩ :: _) _ _); refine H.ld1 rfl oT rfl rfl (by repeat (first | with_reducible exact List.mem_cons_self | apply List.mem_cons_of_mem)) (by first | with_reducible exact get_rough0 _ _ _ _ | with_reducible exact get_rough8 _ _ _ _ | with_reducible exact get_10 _) ?_; simp only [Act.put, List.setIfInBounds_toArray, List.set_cons_zero, List.set_cons_succ])
    | ((with_reducible show wpList _ _ _ (⟨_, .store 27 _ _, _, _, _, _⟩ :: _) _ _); refine H.st rfl rB rfl rfl (cells_agg _) (by repeat (first | with_reducible exact Upd.head _ | apply Upd.tail)) (set_bits _ _ _ _) (by rfl) (by exact one_of rfl) (by first | exact ble_le rfl | (change _ + 1 ≤ 12; omega) | (change _ + 1 ≤ 6; omega)) ?_; (intro w H; simp only [Act.put]))
    | ((with_reducible show wpList _ _ _ (⟨_, .load 54 _, _, _, _, _⟩ :: _) _ _); refine H.ld rfl rW rfl rfl (by repeat (first | with_reducible exact List.mem_cons_self | apply List.mem_cons_of_mem)) (by first | with_reducible exact ext_limbs _ | with_reducible exact ext_parts_s _ _ _ _ | with_reducible exact ext_rough_s _ _ _ _ | with_reducible exact ext_parts_f _ _ _ _) (by rfl) ?_; simp only [Act.put, List.setIfInBounds_toArray, List.set_cons_zero, List.set_cons_succ])
    | ((with_reducible show Code.wp _ (.region 6 _ true) _ _ _); refine H.heldSub rfl (List.Sublist.refl _) ?_; intro H; refine H.takeRun (List.Sublist.refl _) 0 rfl (by kernel_rfl) (by kernel_rfl) (by kernel_rfl) (fun _ _ _ _ h => h) rfl (by intro w; go_simp; (try with_reducible rfl)) ?_; (try simp only [Act.put, List.setIfInBounds_toArray, List.set_cons_zero, List.set_cons_succ]); (try simp only [List.getElem_toArray, List.getElem_cons_zero, List.getElem_cons_succ]); (first | refine H.tk (List.Sublist.refl _) 1 rfl (by kernel_rfl) (by kernel_rfl) (by kernel_rfl) (fun _ _ _ _ h => h) rfl rW rfl rfl (by repeat (first | with_reducible exact List.mem_cons_self | apply List.mem_cons_of_mem)) (by first | with_reducible exact ext_limbs _ | with_reducible exact ext_parts_s _ _ _ _ | with_reducible exact ext_rough_s _ _ _ _ | with_reducible exact ext_parts_f _ _ _ _) (by rfl) ?_ | refine H.tk1 (List.Sublist.refl _) 1 rfl (by kernel_rfl) (by kernel_rfl) (by kernel_rfl) (fun _ _ _ _ h => h) rfl oI rfl rfl (by repeat (first | with_reducible exact List.mem_cons_self | apply List.mem_cons_of_mem)) (by first | with_reducible exact get_rough7 _ _ _ _ | with_reducible exact get_parts7 _ _ _ _ | with_reducible exact get_10 _) ?_); (try simp only [Act.put, List.setIfInBounds_toArray, List.set_cons_zero, List.set_cons_succ]); (try simp only [List.getElem_toArray, List.getElem_cons_zero, List.getElem_cons_succ]); refine H.takeRun (List.Sublist.refl _) 4 rfl (by kernel_rfl) (by kernel_rfl) (by kernel_rfl) (fun _ _ _ _ h => h) rfl (by intro w; go_simp; (try with_reducible rfl)) ?_; (try simp only [Act.put, List.setIfInBounds_toArray, List.set_cons_zero, List.set_cons_succ]); (try simp only [List.getElem_toArray, List.getElem_cons_zero, List.getElem_cons_succ]); (first | refine H.tk (List.Sublist.refl _) 5 rfl (by kernel_rfl) (by kernel_rfl) (by kernel_rfl) (fun _ _ _ _ h => h) rfl rW rfl rfl (by repeat (first | with_reducible exact List.mem_cons_self | apply List.mem_cons_of_mem)) (by first | with_reducible exact ext_limbs _ | with_reducible exact ext_parts_s _ _ _ _ | with_reducible exact ext_rough_s _ _ _ _ | with_reducible exact ext_parts_f _ _ _ _) (by rfl) ?_ | refine H.tk1 (List.Sublist.refl _) 5 rfl (by kernel_rfl) (by kernel_rfl) (by kernel_rfl) (fun _ _ _ _ h => h) rfl oI rfl rfl (by repeat (first | with_reducible exact List.mem_cons_self | apply List.mem_cons_of_mem)) (by first | with_reducible exact get_rough7 _ _ _ _ | with_reducible exact get_parts7 _ _ _ _ | with_reducible exact get_10 _) ?_); (try simp only [Act.put, List.setIfInBounds_toArray, List.set_cons_zero, List.set_cons_succ]); (try simp only [List.getElem_toArray, List.getElem_cons_zero, List.getElem_cons_succ]); refine held_one (i := 2) (by kernel_rfl) rfl rfl ?_; unfold Oper.wp; go_simp; (go_at_call 78; ((with_reducible refine (cL _).mono ?_); rintro e w ⟨rfl, hb⟩; replace H := H.call hb; clear hb)); refine H.next (List.Sublist.refl _) ?_; (try simp only [Act.put, List.setIfInBounds_toArray, List.set_cons_zero, List.set_cons_succ]); (try simp only [List.getElem_toArray, List.getElem_cons_zero, List.getElem_cons_succ]); refine H.takeRun (List.Sublist.refl _) 3 rfl (by kernel_rfl) (by kernel_rfl) (by kernel_rfl) (fun _ _ _ _ h => h) rfl (by intro w; go_simp; (try with_reducible rfl)) ?_; (try simp only [Act.put, List.setIfInBounds_toArray, List.set_cons_zero, List.set_cons_succ]); (try simp only [List.getElem_toArray, List.getElem_cons_zero, List.getElem_cons_succ]); refine H.takeRun (List.Sublist.refl _) 6 rfl (by kernel_rfl) (by kernel_rfl) (by kernel_rfl) (fun _ _ _ _ h => h) rfl (by intro w; go_simp; (try with_reducible rfl)) ?_; (try simp only [Act.put, List.setIfInBounds_toArray, List.set_cons_zero, List.set_cons_succ]); (try simp only [List.getElem_toArray, List.getElem_cons_zero, List.getElem_cons_succ]); refine H.takeRun (List.Sublist.refl _) 7 rfl (by kernel_rfl) (by kernel_rfl) (by kernel_rfl) (fun _ _ _ _ h => h) rfl (by intro w; go_simp; (try with_reducible rfl)) ?_; (try simp only [Act.put, List.setIfInBounds_toArray, List.set_cons_zero, List.set_cons_succ]); (try simp only [List.getElem_toArray, List.getElem_cons_zero, List.getElem_cons_succ]); refine wpAnyH_done (by kernel_rfl) ?_ _)
    | ((with_reducible show wpList _ _ _ (⟨_, .alloc 54, _, _, _, _⟩ :: _) _ _); refine H.mk0 rfl rW rfl ?_; (intro g w H; simp only [Act.put, List.setIfInBounds_toArray, List.set_cons_zero, List.set_cons_succ]))
    | ((with_reducible show wpList _ _ _ (⟨_, .load 25 _, _, _, _, _⟩ :: _) _ _); refine H.ld1 rfl oU rfl rfl (by repeat (first | with_reducible exact List.mem_cons_self | apply List.mem_cons_of_mem)) (by first | with_reducible exact get_20 _ _ | with_reducible exact get_21 _ _ | with_reducible exact limbs_o0 _ | with_reducible exact limbs_o1 _ | with_reducible exact limbs_o2 _ | with_reducible exact limbs_o3 _ | with_reducible exact limbs_o4 _ | with_reducible exact limbs_o5 _) ?_; simp only [Act.put, List.setIfInBounds_toArray, List.set_cons_zero, List.set_cons_succ])
    | ((with_reducible show wpList _ _ _ (⟨_, .store 54 _ _, _, _, _, _⟩ :: _) _ _); refine H.st rfl rW rfl rfl (cells_agg _) (by repeat (first | with_reducible exact Upd.head _ | apply Upd.tail)) (set_limbs _ _) (by rfl) (by exact one_of rfl) (by first | exact ble_le rfl | (change _ + 1 ≤ 12; omega) | (change _ + 1 ≤ 6; omega)) ?_; (intro w H; simp only [Act.put]))
    | (go_at_call 65; ((with_reducible refine (cP _).mono ?_); rintro e w ⟨rfl, hb⟩; replace H := H.call hb; clear hb))
    | (go_at_call 85; ((with_reducible refine (cR _).mono ?_); rintro e w' ⟨rfl, rfl⟩))
    | (go_at_call 78; ((with_reducible refine (cL _).mono ?_); rintro e w ⟨rfl, hb⟩; replace H := H.call hb; clear hb))
    | (go_at_call 19; ((with_reducible refine (cZ _).mono ?_); rintro e w ⟨rfl, hb⟩; replace H := H.call hb; clear hb))
    | (go_at_call 86; ((with_reducible refine (cE _).mono ?_); rintro e w ⟨rfl, hb⟩; replace H := H.call hb; clear hb))
    | (go_at_call 55; ((with_reducible refine (cX _).mono ?_); rintro e w ⟨rfl, hb⟩; replace H := H.call hb; clear hb))
    | (go_at_call 87; ((with_reducible refine (cO _).mono ?_); rintro e w ⟨rfl, hb⟩; replace H := H.call hb; clear hb))
    | (go_at_call 88; ((with_reducible refine (cG _ (HT.out.below H.below)).mono ?_); rintro e w ⟨rfl, hb⟩; replace H := H.call hb; clear hb))
    | (go_at_call 78; ((with_reducible refine (cK _).mono ?_); rintro e w ⟨rfl, hb⟩; replace H := H.call hb; clear hb))
    | (go_at_call 33; ((with_reducible refine (cOf _).mono ?_); rintro e w ⟨rfl, hb⟩; replace H := H.call hb; clear hb))
    | (go_at_call 48; ((with_reducible refine (cLf _).mono ?_); rintro e w ⟨rfl, hb⟩; replace H := H.call hb; clear hb))
    | (go_at_call 51; ((with_reducible refine (cAd _).mono ?_); rintro e w ⟨rfl, hb⟩; replace H := H.call hb; clear hb))
    | (go_at_call 90; ((with_reducible refine (cB _).mono ?_); rintro e w ⟨rfl, hb⟩; replace H := H.call hb; clear hb))
    | (go_at_call 89; ((with_reducible refine (cT _ (HT.out.below H.below)).mono ?_); rintro e w ⟨rfl, hb⟩; replace H := H.call hb; clear hb))
    )
  all_goals (refine bodyPost_ret (results_ctt rfl rfl (H.res rB (by repeat (first | with_reducible exact List.mem_cons_self | apply List.mem_cons_of_mem)) (by first | with_reducible exact ext_2 _ _) (by rfl))) rfl ⟨?_, H.below⟩; exact rfl)) : P := h
set_option maxHeartbeats 1600000 in
set_option maxRecDepth 100000 in
theorem roundPack_right (f m s p : Nat) (e : Int) (neg mo : Bool) (w : World) (hp : p ≤ 113) (cP : ∀ w, Calls Tryd.prog 65 #[.int .u8 f] w fun e w' => e = .returned (.int .i64 (p : Nat)) ∧ Below w.heap.size w w') (cR : ∀ w, Calls Tryd.prog 85 #[.int .u8 f, .int .u8 m] w fun e w' => e = .returned (.bool false) ∧ w = w') :
    Calls Tryd.prog 32 #[.int .u8 f, .int .u8 m, RV neg s e mo] w fun e w' => e = .returned (.tuple #[BV 0, .int .u8 0, .int .i64 2]) ∧ Below w.heap.size w w' := by
  have H := Own.start w
  go_enter Tryd.func32, Tryd.ntmps32
  exact walk32
set_option maxHeartbeats 1600000 in
set_option maxRecDepth 100000 in
theorem roundPack_low (f m s p : Nat) (e : Int) (neg mo : Bool) (w : World) (hp : p ≤ 113) (he : e < -1048576) (cP : ∀ w, Calls Tryd.prog 65 #[.int .u8 f] w fun e w' => e = .returned (.int .i64 (p : Nat)) ∧ Below w.heap.size w w') (cR : ∀ w, Calls Tryd.prog 85 #[.int .u8 f, .int .u8 m] w fun e w' => e = .returned (.bool true) ∧ w = w') :
    Calls Tryd.prog 32 #[.int .u8 f, .int .u8 m, RV neg s e mo] w fun e w' => e = .returned (.tuple #[BV 0, .int .u8 0, .int .i64 2]) ∧ Below w.heap.size w w' := by
  have H := Own.start w
  have he2 : decide (e < -1048576) = true := by simpa using he
  go_enter Tryd.func32, Tryd.ntmps32
  exact walk32
set_option maxHeartbeats 1600000 in
set_option maxRecDepth 100000 in
theorem roundPack_high (f m s p : Nat) (e : Int) (neg mo : Bool) (w : World) (hp : p ≤ 113) (he : 1048576 < e) (cP : ∀ w, Calls Tryd.prog 65 #[.int .u8 f] w fun e w' => e = .returned (.int .i64 (p : Nat)) ∧ Below w.heap.size w w') (cR : ∀ w, Calls Tryd.prog 85 #[.int .u8 f, .int .u8 m] w fun e w' => e = .returned (.bool true) ∧ w = w') :
    Calls Tryd.prog 32 #[.int .u8 f, .int .u8 m, RV neg s e mo] w fun e w' => e = .returned (.tuple #[BV 0, .int .u8 0, .int .i64 2]) ∧ Below w.heap.size w w' := by
  have H := Own.start w
  have he2 : decide (e < -1048576) = false := by simp; omega
  have he3 : decide (1048576 < e) = true := by simpa using he
  go_enter Tryd.func32, Tryd.ntmps32
  exact walk32
set_option maxHeartbeats 1600000 in
set_option maxRecDepth 100000 in
theorem roundPack_more (f m s p l : Nat) (e : Int) (neg : Bool) (w : World) (hp : p ≤ 113) (h1 : -1048576 ≤ e) (h2 : e ≤ 1048576) (hl : l < p + 2) (hl4 : l ≤ 384) (cP : ∀ w, Calls Tryd.prog 65 #[.int .u8 f] w fun e w' => e = .returned (.int .i64 (p : Nat)) ∧ Below w.heap.size w w') (cR : ∀ w, Calls Tryd.prog 85 #[.int .u8 f, .int .u8 m] w fun e w' => e = .returned (.bool true) ∧ w = w') (cL : ∀ w, Calls Tryd.prog 78 #[W s] w fun e w' => e = .returned (.int .i64 (l : Nat)) ∧ Below w.heap.size w w') :
    Calls Tryd.prog 32 #[.int .u8 f, .int .u8 m, RV neg s e true] w fun e w' => e = .returned (.tuple #[BV 0, .int .u8 0, .int .i64 2]) ∧ Below w.heap.size w w' := by
  have H := Own.start w
  have he2 : decide (e < -1048576) = false := by simp; omega
  have he3 : decide (1048576 < e) = false := by simp; omega
  have hl2 : decide ((l : Int) < (p : Int) + 2) = true := by simp; omega
  go_enter Tryd.func32, Tryd.ntmps32
  exact walk32
set_option maxHeartbeats 1600000 in
set_option maxRecDepth 100000 in
theorem roundPack_zero_f (f m s p l z : Nat) (e : Int) (neg : Bool) (w : World) (hT : Tab w) (hp : p ≤ 113) (h1 : -1048576 ≤ e) (h2 : e ≤ 1048576) (hl4 : l ≤ 384) (cP : ∀ w, Calls Tryd.prog 65 #[.int .u8 f] w fun e w' => e = .returned (.int .i64 (p : Nat)) ∧ Below w.heap.size w w') (cR : ∀ w, Calls Tryd.prog 85 #[.int .u8 f, .int .u8 m] w fun e w' => e = .returned (.bool true) ∧ w = w') (cL : ∀ w, Calls Tryd.prog 78 #[W s] w fun e w' => e = .returned (.int .i64 (l : Nat)) ∧ Below w.heap.size w w') (hs : s < top6) (hs0 : decide (s = 0) = true) (cZ : ∀ w, Calls Tryd.prog 19 #[.int .u8 f, .bool neg] w fun e w' => e = .returned (BV z) ∧ Below w.heap.size w w') :
    Calls Tryd.prog 32 #[.int .u8 f, .int .u8 m, RV neg s e false] w fun e w' => e = .returned (.tuple #[BV z, .int .u8 0, .int .i64 0]) ∧ Below w.heap.size w w' := by
  have H := Own.start w
  have HT := Lib.hid hT
  clear hT
  have he2 : decide (e < -1048576) = false := by simp; omega
  have he3 : decide (1048576 < e) = false := by simp; omega
  have eq1 : ∀ w, (Op.equalIn 10000 54 (.agg (limbs s)) (.agg #[.int .u64 0, .int .u64 0, .int .u64 0, .int .u64 0, .int .u64 0, .int .u64 0])).run Tryd.prog w = .ok true w := fun w => (run_equal_zero w s hs).trans (by rw [hs0])
  clear hs hs0
  go_enter Tryd.func32, Tryd.ntmps32
  exact walk32
set_option maxHeartbeats 1600000 in
set_option maxRecDepth 100000 in
theorem roundPack_over_f (f m s p l E o : Nat) (e top lo : Int) (neg : Bool) (w : World) (hT : Tab w) (hp : p ≤ 113) (h1 : -1048576 ≤ e) (h2 : e ≤ 1048576) (hl4 : l ≤ 384) (cP : ∀ w, Calls Tryd.prog 65 #[.int .u8 f] w fun e w' => e = .returned (.int .i64 (p : Nat)) ∧ Below w.heap.size w w') (cR : ∀ w, Calls Tryd.prog 85 #[.int .u8 f, .int .u8 m] w fun e w' => e = .returned (.bool true) ∧ w = w') (cL : ∀ w, Calls Tryd.prog 78 #[W s] w fun e w' => e = .returned (.int .i64 (l : Nat)) ∧ Below w.heap.size w w') (hs : s < top6) (hs0 : decide (s = 0) = false) (htop : (l : Int) - 1 + e = top) (l1 : -20000 ≤ lo) (l2 : lo ≤ 20000) (t1 : -1100000 ≤ top) (t2 : top ≤ 1100000) (hE : E ≤ 16383) (cE : ∀ w, Calls Tryd.prog 86 #[.int .u8 f] w fun e w' => e = .returned (.int .i64 lo) ∧ Below w.heap.size w w') (cX : ∀ w, Calls Tryd.prog 55 #[.int .u8 f] w fun e w' => e = .returned (.int .i64 (E : Nat)) ∧ Below w.heap.size w w') (hov : (E : Int) < top) (cO : ∀ w, Calls Tryd.prog 87 #[.int .u8 f, .int .u8 m, .bool neg] w fun e w' => e = .returned (.tuple #[BV o, .int .u8 5, .int .i64 0]) ∧ Below w.heap.size w w') :
    Calls Tryd.prog 32 #[.int .u8 f, .int .u8 m, RV neg s e false] w fun e w' => e = .returned (.tuple #[BV o, .int .u8 5, .int .i64 0]) ∧ Below w.heap.size w w' := by
  have H := Own.start w
  have HT := Lib.hid hT
  clear hT
  have he2 : decide (e < -1048576) = false := by simp; omega
  have he3 : decide (1048576 < e) = false := by simp; omega
  have eq1 : ∀ w, (Op.equalIn 10000 54 (.agg (limbs s)) (.agg #[.int .u64 0, .int .u64 0, .int .u64 0, .int .u64 0, .int .u64 0, .int .u64 0])).run Tryd.prog w = .ok false w := fun w => (run_equal_zero w s hs).trans (by rw [hs0])
  have v1 : IntKind.i64.wrap ((l : Int) - 1) = (l : Int) - 1 := IntWalk.i64_in _ (by omega)
  have v2 : IntKind.i64.wrap ((l : Int) - 1 + e) = top := by rw [htop]; exact IntWalk.i64_in _ (by omega)
  clear hs hs0 htop
  go_enter Tryd.func32, Tryd.ntmps32
  exact walk32
set_option maxHeartbeats 1600000 in
set_option maxRecDepth 100000 in
theorem roundPack_zero_t (f m s p l z : Nat) (e : Int) (neg : Bool) (w : World) (hT : Tab w) (hp : p ≤ 113) (h1 : -1048576 ≤ e) (h2 : e ≤ 1048576) (hl4 : l ≤ 384) (hl : ¬ l < p + 2) (cP : ∀ w, Calls Tryd.prog 65 #[.int .u8 f] w fun e w' => e = .returned (.int .i64 (p : Nat)) ∧ Below w.heap.size w w') (cR : ∀ w, Calls Tryd.prog 85 #[.int .u8 f, .int .u8 m] w fun e w' => e = .returned (.bool true) ∧ w = w') (cL : ∀ w, Calls Tryd.prog 78 #[W s] w fun e w' => e = .returned (.int .i64 (l : Nat)) ∧ Below w.heap.size w w') (hs : s < top6) (hs0 : decide (s = 0) = true) (cZ : ∀ w, Calls Tryd.prog 19 #[.int .u8 f, .bool neg] w fun e w' => e = .returned (BV z) ∧ Below w.heap.size w w') :
    Calls Tryd.prog 32 #[.int .u8 f, .int .u8 m, RV neg s e true] w fun e w' => e = .returned (.tuple #[BV z, .int .u8 0, .int .i64 0]) ∧ Below w.heap.size w w' := by
  have H := Own.start w
  have HT := Lib.hid hT
  clear hT
  have he2 : decide (e < -1048576) = false := by simp; omega
  have he3 : decide (1048576 < e) = false := by simp; omega
  have hl2 : decide ((l : Int) < (p : Int) + 2) = false := by simp; omega
  have eq1 : ∀ w, (Op.equalIn 10000 54 (.agg (limbs s)) (.agg #[.int .u64 0, .int .u64 0, .int .u64 0, .int .u64 0, .int .u64 0, .int .u64 0])).run Tryd.prog w = .ok true w := fun w => (run_equal_zero w s hs).trans (by rw [hs0])
  clear hs hs0
  go_enter Tryd.func32, Tryd.ntmps32
  exact walk32
set_option maxHeartbeats 1600000 in
set_option maxRecDepth 100000 in
theorem roundPack_over_t (f m s p l E o : Nat) (e top lo : Int) (neg : Bool) (w : World) (hT : Tab w) (hp : p ≤ 113) (h1 : -1048576 ≤ e) (h2 : e ≤ 1048576) (hl4 : l ≤ 384) (hl : ¬ l < p + 2) (cP : ∀ w, Calls Tryd.prog 65 #[.int .u8 f] w fun e w' => e = .returned (.int .i64 (p : Nat)) ∧ Below w.heap.size w w') (cR : ∀ w, Calls Tryd.prog 85 #[.int .u8 f, .int .u8 m] w fun e w' => e = .returned (.bool true) ∧ w = w') (cL : ∀ w, Calls Tryd.prog 78 #[W s] w fun e w' => e = .returned (.int .i64 (l : Nat)) ∧ Below w.heap.size w w') (hs : s < top6) (hs0 : decide (s = 0) = false) (htop : (l : Int) - 1 + e = top) (l1 : -20000 ≤ lo) (l2 : lo ≤ 20000) (t1 : -1100000 ≤ top) (t2 : top ≤ 1100000) (hE : E ≤ 16383) (cE : ∀ w, Calls Tryd.prog 86 #[.int .u8 f] w fun e w' => e = .returned (.int .i64 lo) ∧ Below w.heap.size w w') (cX : ∀ w, Calls Tryd.prog 55 #[.int .u8 f] w fun e w' => e = .returned (.int .i64 (E : Nat)) ∧ Below w.heap.size w w') (hov : (E : Int) < top) (cO : ∀ w, Calls Tryd.prog 87 #[.int .u8 f, .int .u8 m, .bool neg] w fun e w' => e = .returned (.tuple #[BV o, .int .u8 5, .int .i64 0]) ∧ Below w.heap.size w w') :
    Calls Tryd.prog 32 #[.int .u8 f, .int .u8 m, RV neg s e true] w fun e w' => e = .returned (.tuple #[BV o, .int .u8 5, .int .i64 0]) ∧ Below w.heap.size w w' := by
  have H := Own.start w
  have HT := Lib.hid hT
  clear hT
  have he2 : decide (e < -1048576) = false := by simp; omega
  have he3 : decide (1048576 < e) = false := by simp; omega
  have hl2 : decide ((l : Int) < (p : Int) + 2) = false := by simp; omega
  have eq1 : ∀ w, (Op.equalIn 10000 54 (.agg (limbs s)) (.agg #[.int .u64 0, .int .u64 0, .int .u64 0, .int .u64 0, .int .u64 0, .int .u64 0])).run Tryd.prog w = .ok false w := fun w => (run_equal_zero w s hs).trans (by rw [hs0])
  have v1 : IntKind.i64.wrap ((l : Int) - 1) = (l : Int) - 1 := IntWalk.i64_in _ (by omega)
  have v2 : IntKind.i64.wrap ((l : Int) - 1 + e) = top := by rw [htop]; exact IntWalk.i64_in _ (by omega)
  clear hs hs0 htop
  go_enter Tryd.func32, Tryd.ntmps32
  exact walk32
end Go.Proofs.YtdcgcjmajacgiaaDoor

namespace Go.Proofs.YtdcgcjmajacgiaaDoor
open Go.RowKit
theorem app_get (p q r : Array Value) (hp : p.size = 14) (hq : q.size = 14) (hr : r.size = 14) (j : Nat) : (p ++ q ++ r)[j]? = if j < 14 then p[j]? else if j < 28 then q[j - 14]? else r[j - 28]? := by
  rw [Array.getElem?_append, Array.getElem?_append, Array.size_append, hp, hq]
  by_cases h1 : j < 14
  · rw [if_pos (by omega), if_pos h1, if_pos h1]
  · by_cases h2 : j < 28
    · rw [if_pos (by omega), if_neg h1, if_neg h1, if_pos h2]
    · rw [if_neg (by omega), if_neg h1, if_neg h2]
theorem app_size (p q r : Array Value) (hp : p.size = 14) (hq : q.size = 14) (hr : r.size = 14) : (p ++ q ++ r).size = 42 := by rw [Array.size_append, Array.size_append, hp, hq, hr]
theorem set_app0 (p q r v : Array Value) (hp : p.size = 14) (hq : q.size = 14) (hr : r.size = 14) (hv : v.size = 14) : setRow (p ++ q ++ r) 0 v.toList = v ++ q ++ r := by
  apply Array.ext_getElem?
  intro j
  rw [setRow_at _ _ _ _ (by rw [app_size p q r hp hq hr]; omega), app_get p q r hp hq hr, app_get v q r hv hq hr, hv, if_neg (by omega)]
  by_cases h1 : j < 14
  · rw [if_pos (by omega), if_pos h1]; rfl
  · rw [if_neg (by omega), if_neg h1, if_neg h1]
theorem set_app1 (p q r v : Array Value) (hp : p.size = 14) (hq : q.size = 14) (hr : r.size = 14) (hv : v.size = 14) : setRow (p ++ q ++ r) 14 v.toList = p ++ v ++ r := by
  apply Array.ext_getElem?
  intro j
  rw [setRow_at _ _ _ _ (by rw [app_size p q r hp hq hr]; omega), app_get p q r hp hq hr, app_get p v r hp hv hr, hv]
  by_cases h1 : j < 14
  · rw [if_pos (by omega), if_pos h1, if_pos h1]
  · by_cases h2 : j < 28
    · rw [if_neg (by omega), if_pos (by omega), if_neg h1, if_pos h2]
    · rw [if_neg (by omega), if_neg (by omega), if_neg h1, if_neg h2, if_neg h1, if_neg h2]
theorem set_app2 (p q r v : Array Value) (hp : p.size = 14) (hq : q.size = 14) (hr : r.size = 14) (hv : v.size = 14) : setRow (p ++ q ++ r) 28 v.toList = p ++ q ++ v := by
  apply Array.ext_getElem?
  intro j
  rw [setRow_at _ _ _ _ (by rw [app_size p q r hp hq hr]; omega), app_get p q r hp hq hr, app_get p q v hp hq hv, hv]
  by_cases h1 : j < 14
  · rw [if_pos (by omega), if_pos h1, if_pos h1]
  · by_cases h2 : j < 28
    · rw [if_pos (by omega), if_neg h1, if_pos h2, if_neg h1, if_pos h2]
    · rw [if_neg (by omega), if_neg h1, if_neg h2]
      by_cases h3 : j < 42
      · rw [if_pos (by omega), if_neg h1, if_neg h2]
      · rw [if_neg (by omega), if_neg h1, if_neg h2, Array.getElem?_eq_none (by omega), Array.getElem?_eq_none (by omega)]
/-- Three parts. -/
def tri (c1 s1 : Nat) (x1 : Int) (f1 : Nat) (c2 s2 : Nat) (x2 : Int) (f2 : Nat) (c3 s3 : Nat) (x3 : Int) (f3 : Nat) : Array Value := #[.int .u8 c1, .int .u64 (limb s1 0), .int .u64 (limb s1 1), .int .u64 (limb s1 2), .int .u64 (limb s1 3), .int .u64 (limb s1 4), .int .u64 (limb s1 5), .int .i64 x1, .int .u64 (limb f1 0), .int .u64 (limb f1 1), .int .u64 (limb f1 2), .int .u64 (limb f1 3), .int .u64 (limb f1 4), .int .u64 (limb f1 5), .int .u8 c2, .int .u64 (limb s2 0), .int .u64 (limb s2 1), .int .u64 (limb s2 2), .int .u64 (limb s2 3), .int .u64 (limb s2 4), .int .u64 (limb s2 5), .int .i64 x2, .int .u64 (limb f2 0), .int .u64 (limb f2 1), .int .u64 (limb f2 2), .int .u64 (limb f2 3), .int .u64 (limb f2 4), .int .u64 (limb f2 5), .int .u8 c3, .int .u64 (limb s3 0), .int .u64 (limb s3 1), .int .u64 (limb s3 2), .int .u64 (limb s3 3), .int .u64 (limb s3 4), .int .u64 (limb s3 5), .int .i64 x3, .int .u64 (limb f3 0), .int .u64 (limb f3 1), .int .u64 (limb f3 2), .int .u64 (limb f3 3), .int .u64 (limb f3 4), .int .u64 (limb f3 5)]
theorem ext_tri (c1 s1 : Nat) (x1 : Int) (f1 : Nat) (c2 s2 : Nat) (x2 : Int) (f2 : Nat) (c3 s3 : Nat) (x3 : Int) (f3 : Nat) : (tri c1 s1 x1 f1 c2 s2 x2 f2 c3 s3 x3 f3).extract 0 (0 + (tri c1 s1 x1 f1 c2 s2 x2 f2 c3 s3 x3 f3).size) = tri c1 s1 x1 f1 c2 s2 x2 f2 c3 s3 x3 f3 := by rw [Nat.zero_add]; exact Array.extract_size
theorem tri_app (c1 s1 : Nat) (x1 : Int) (f1 : Nat) (c2 s2 : Nat) (x2 : Int) (f2 : Nat) (c3 s3 : Nat) (x3 : Int) (f3 : Nat) : tri c1 s1 x1 f1 c2 s2 x2 f2 c3 s3 x3 f3 = parts c1 s1 x1 f1 ++ parts c2 s2 x2 f2 ++ parts c3 s3 x3 f3 := by unfold tri parts; simp only [List.append_toArray, List.cons_append, List.nil_append]
theorem ext_t0 (c1 s1 : Nat) (x1 : Int) (f1 : Nat) (c2 s2 : Nat) (x2 : Int) (f2 : Nat) (c3 s3 : Nat) (x3 : Int) (f3 : Nat) : (tri c1 s1 x1 f1 c2 s2 x2 f2 c3 s3 x3 f3).extract 0 (0 + (parts c1 s1 x1 f1).size) = parts c1 s1 x1 f1 := by rw [tri_app]; exact app3_0 _ _ _
theorem set_t0 (c1 s1 : Nat) (x1 : Int) (f1 : Nat) (c2 s2 : Nat) (x2 : Int) (f2 : Nat) (c3 s3 : Nat) (x3 : Int) (f3 : Nat) (c s : Nat) (x : Int) (f : Nat) : setRow (tri c1 s1 x1 f1 c2 s2 x2 f2 c3 s3 x3 f3) 0 (parts c s x f).toList = tri c s x f c2 s2 x2 f2 c3 s3 x3 f3 := by rw [tri_app, set_app0 _ _ _ _ rfl rfl rfl rfl, tri_app]
theorem ext_t1 (c1 s1 : Nat) (x1 : Int) (f1 : Nat) (c2 s2 : Nat) (x2 : Int) (f2 : Nat) (c3 s3 : Nat) (x3 : Int) (f3 : Nat) : (tri c1 s1 x1 f1 c2 s2 x2 f2 c3 s3 x3 f3).extract 14 (14 + (parts c2 s2 x2 f2).size) = parts c2 s2 x2 f2 := by rw [tri_app]; exact app3_1 _ _ _ rfl
theorem set_t1 (c1 s1 : Nat) (x1 : Int) (f1 : Nat) (c2 s2 : Nat) (x2 : Int) (f2 : Nat) (c3 s3 : Nat) (x3 : Int) (f3 : Nat) (c s : Nat) (x : Int) (f : Nat) : setRow (tri c1 s1 x1 f1 c2 s2 x2 f2 c3 s3 x3 f3) 14 (parts c s x f).toList = tri c1 s1 x1 f1 c s x f c3 s3 x3 f3 := by rw [tri_app, set_app1 _ _ _ _ rfl rfl rfl rfl, tri_app]
theorem ext_t2 (c1 s1 : Nat) (x1 : Int) (f1 : Nat) (c2 s2 : Nat) (x2 : Int) (f2 : Nat) (c3 s3 : Nat) (x3 : Int) (f3 : Nat) : (tri c1 s1 x1 f1 c2 s2 x2 f2 c3 s3 x3 f3).extract 28 (28 + (parts c3 s3 x3 f3).size) = parts c3 s3 x3 f3 := by rw [tri_app]; exact app3_2 _ _ _ rfl
theorem set_t2 (c1 s1 : Nat) (x1 : Int) (f1 : Nat) (c2 s2 : Nat) (x2 : Int) (f2 : Nat) (c3 s3 : Nat) (x3 : Int) (f3 : Nat) (c s : Nat) (x : Int) (f : Nat) : setRow (tri c1 s1 x1 f1 c2 s2 x2 f2 c3 s3 x3 f3) 28 (parts c s x f).toList = tri c1 s1 x1 f1 c2 s2 x2 f2 c s x f := by rw [tri_app, set_app2 _ _ _ _ rfl rfl rfl rfl, tri_app]
theorem tri_zero : tri 0 0 0 0 0 0 0 0 0 0 0 0 = #[.int .u8 0, .int .u64 0, .int .u64 0, .int .u64 0, .int .u64 0, .int .u64 0, .int .u64 0, .int .i64 0, .int .u64 0, .int .u64 0, .int .u64 0, .int .u64 0, .int .u64 0, .int .u64 0, .int .u8 0, .int .u64 0, .int .u64 0, .int .u64 0, .int .u64 0, .int .u64 0, .int .u64 0, .int .i64 0, .int .u64 0, .int .u64 0, .int .u64 0, .int .u64 0, .int .u64 0, .int .u64 0, .int .u8 0, .int .u64 0, .int .u64 0, .int .u64 0, .int .u64 0, .int .u64 0, .int .u64 0, .int .i64 0, .int .u64 0, .int .u64 0, .int .u64 0, .int .u64 0, .int .u64 0, .int .u64 0] := by
  unfold tri; simp only [limb_zero]; rfl
theorem t3_z : (Tryd.prog.info? 73).bind (·.zero) = some (.agg (tri 0 0 0 0 0 0 0 0 0 0 0 0)) := by rw [tri_zero]; kernel_rfl
theorem rQ : IsRow Tryd.prog 73 42 (tri 0 0 0 0 0 0 0 0 0 0 0 0) := ⟨⟨_, Tryd.underlying73, rfl⟩, t3_s, t3_z⟩
theorem set_tri (a1 a2 : Nat) (a3 : Int) (a4 a5 a6 : Nat) (a7 : Int) (a8 a9 a10 : Nat) (a11 : Int) (a12 c1 s1 : Nat) (x1 : Int) (f1 : Nat) (c2 s2 : Nat) (x2 : Int) (f2 : Nat) (c3 s3 : Nat) (x3 : Int) (f3 : Nat) : setRow (tri a1 a2 a3 a4 a5 a6 a7 a8 a9 a10 a11 a12) 0 (tri c1 s1 x1 f1 c2 s2 x2 f2 c3 s3 x3 f3).toList = tri c1 s1 x1 f1 c2 s2 x2 f2 c3 s3 x3 f3 := set_all _ _ rfl
theorem set_pw (a b : Nat) (x : Int) (d c s : Nat) (y : Int) (f : Nat) : setRow (parts a b x d) 0 (parts c s y f).toList = parts c s y f := set_all _ _ rfl
abbrev PZ : Array Value := parts 0 0 0 0
/-- The parts of an encoding. -/
abbrev PT (f b : Nat) : Array Value := parts (clsN f b) (sigN f b) (xpN f b) (frN f b)
abbrev bc (b : Nat) : Array Value := #[.int .u64 (limb b 1), .int .u64 (limb b 0)]
theorem flag_on (b c : Bool) (h : c = true) : Value.int .u8 (Go.bits .or .u8 (cond b 16 0) 16) = .int .u8 (cond c 16 0) := by
  subst h; have : Go.bits .or .u8 (cond b 16 0) 16 = 16 := by cases b <;> decide +kernel
  rw [this]; rfl
theorem flag_on0 (c : Bool) (h : c = true) : Value.int .u8 (Go.bits .or .u8 0 16) = .int .u8 (cond c 16 0) := by subst h; exact flag_on false true rfl
theorem flag_off0 (c : Bool) (h : c = false) : Value.int .u8 0 = .int .u8 (cond c 16 0) := by subst h; rfl
theorem flag_off (b c : Bool) (h : c = b) : Value.int .u8 (cond b 16 0) = .int .u8 (cond c 16 0) := by rw [h]
end Go.Proofs.YtdcgcjmajacgiaaDoor
